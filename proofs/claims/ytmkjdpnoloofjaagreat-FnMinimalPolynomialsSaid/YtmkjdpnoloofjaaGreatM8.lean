/-
  LawFnMinimalPolynomials: part 8 of the texts that the proof needs. No condition.
-/
import Derived.Test.YtmkjdpnoloofjaaGreatM7
namespace Go.Proofs.YtmkjdpnoloofjaaGreat
open Go.RowKit
/-- A row of a table whose rows are the call's own. -/
theorem MkII.rowAt {w0 w : World} {g n c m : Nat} {p : Int} {L : List (List Int)} (h : MkII w0 w (some ⟨g, 0, none⟩) n c L) (hT : Tab p m L) (hm : 0 < m) {i : Nat} (hi : i < n) :
    ∃ gi ci, w.cell? ⟨g, i, none⟩ = some (.slice (some ⟨gi, 0, none⟩) m ci) ∧ Rd w (some ⟨gi, 0, none⟩) m (ints (L.getD i [])) ∧ (L.getD i []).length = m ∧ NumsL p (L.getD i []) ∧ (∀ q, q < m → w.cell? ⟨gi, q, none⟩ = some (.int .i64 (ent L i q))) ∧ ∀ q, w.frozen? ⟨gi, q, none⟩ = false := by
 have hl := h.len
 obtain ⟨rows, hmk, hn⟩ := h
 have hi2 : i < L.length := by omega
 obtain ⟨A, c', e, ho⟩ := hn.row i hi2
 have hr := hT.row hi2
 have hg : L.getD i [] = L[i] := getD_of_lt [] hi2
 rw [hg] at hr ⊢
 rw [hr.1] at e ho
 rcases ho.form with ⟨_, hz⟩ | ⟨gi, rfl, -, -⟩
 · omega
 obtain ⟨u, hu, hc⟩ := hmk.2.cell_ hi
 rw [e] at hu
 injection hu with hu
 subst hu
 refine ⟨gi, c', hc, ho.rd, hr.1, hr.2, fun q hq => ?_, fun q => ho.frozen_ q⟩
 have hql : q < L[i].length := by rw [hr.1]; exact hq
 refine (World.ownsRow.cellAt ho q (by omega)).trans ?_
 rw [ints_get _ _ hql]
 unfold ent
 rw [hg, getD_of_lt 0 hql]
/-- A list of one list. -/
theorem MkII.lone (w : World) (x : Int) : MkII w ((w.alloc (.cells #[.int .i64 x] 2)).alloc (.cells #[.slice (some ⟨w.heap.size, 0, none⟩) 1 1] 24)) (some ⟨w.heap.size + 1, 0, none⟩) 1 1 [[x]] := by
 have hm1 : MkI w (w.alloc (.cells #[.int .i64 x] 2)) (some ⟨w.heap.size, 0, none⟩) 1 1 [x] := Mk.lit zG #[.int .i64 x] (by simp [maxLen])
 have h := Mk.lit (E := 24) hm1.1 #[.slice (some ⟨w.heap.size, 0, none⟩) 1 1] (by simp [maxLen])
 rw [World.size_alloc] at h
 exact ⟨_, h, ((Nest.nil w w.heap.size).snoc hm1 (Nat.le_refl _)).below (zG.alloc (Nat.le_refl _) _)⟩
theorem nums_cons {p : Int} {R : List Int} (hp : 0 < p) (h : NumsL p R) : NumsL p (0 :: R) := fun x hx => by
 rcases List.mem_cons.1 hx with e | h1
 · rw [e]; exact ⟨by omega, hp⟩
 · exact h x h1
/-- What a whole copy leaves. -/
theorem copy_all {w w0 : World} {g gl ol N cl : Nat} {L : List Int} {cs : Array Value} (hb : Below w0.heap.size w0 w) (hg : w0.heap.size ≤ g) (k : Blk w g 2 cs) (hs : cs.size = N) (hN : N ≤ 1048576) (hr : Rd w (some ⟨gl, ol, none⟩) N (ints L)) (h0 : 0 < N) :
    ∃ X : Array Value, (∀ ty, (Builtin.copy_ #[24, 24] ty #[.slice (some ⟨g, 0, none⟩) N N, .slice (some ⟨gl, ol, none⟩) N cl]).run Tryz.prog w = .ok (goInt N) (w.setRow g X)) ∧ MkI w0 (w.setRow g X) (some ⟨g, 0, none⟩) N N L := by
 have hll : L.length = N := hr.lenI
 have hil : (ints L).length = N := by rw [ints_length]; exact hll
 refine ⟨(ints L).toArray, fun ty => ?_, ?_⟩
 · have h := run_copy_row (P := Tryz.prog) w 24 24 ty 2 g 0 N N ⟨gl, ol, none⟩ N cl cs 2 (ints L) Tryz.underlying24 (by obtain ⟨i, hi, _, h2, _⟩ := info_parts info_i; rw [hi]; exact congrArg some h2) k (by rw [hil]; exact (Nat.min_self N).symm)
    (fun j v hv => by
     obtain ⟨g2, o2, e, hc⟩ := hr.2 h0
     injection e with e
     subst_eqs
     rw [Addr.add_lit]
     exact hc j v hv) (by omega) (fun v hv => by unfold ints at hv; obtain ⟨y, _, rfl⟩ := List.mem_map.1 hv; rfl)
   rw [hil] at h
   have e : (cs.toList.take 0 ++ ints L ++ cs.toList.drop (0 + N)).toArray = (ints L).toArray := by
    rw [List.take_zero, List.nil_append, Nat.zero_add, List.drop_of_length_le (by rw [Array.length_toList]; omega), List.append_nil]
   rw [e] at h
   exact h
 · have h1 := setRow_heap w g cs (ints L).toArray _ _ k
   have h2 : Below w0.heap.size w0 (w.setRow g (ints L).toArray) := below_setRow hb hg _
   have h3 := Mk.of_cells h2 hg h1 (by simp only [maxLen, List.size_toArray]; rw [hil]; omega)
   have e : (ints L).toArray.size = N := by rw [List.size_toArray]; exact hil
   rw [e, List.toList_toArray] at h3
   exact h3
/-- The loops of a piece of code, in order. -/
def loopsOf : Code → List Code
 | .loop c => [c]
 | .seq a b => loopsOf a ++ loopsOf b
 | .block _ c => loopsOf c
 | .scope c => loopsOf c
 | .cond _ a b => loopsOf a ++ loopsOf b
 | _ => []
set_option maxHeartbeats 12800000 in
set_option maxRecDepth 100000 in
theorem char_loop6 (p : Int) (n c1 g : Nat) (w1 wb w0 : World) (L : List (List Int)) (A0 : Option Addr) (c0 : Nat) (hp : 2 ≤ p) (hp2 : p ≤ 13) (h0 : 0 < n) (hn : n ≤ 16) (HTT : Hid (Tab p n L ∧ L.length = n))
    (HMB : Hid (MkII w1 wb (some ⟨g, 0, none⟩) n c1 L)) (hML : MkII wb w0 A0 1 c0 (chTo p L 0)) (x1 x2 x3 x4 x6 x8 x9 x10 x11 x12 x13 x16 x17 x18 x19 x20 x21 x22 x23 x24 x25 x26 x27 x28 x29 x30 x31 x32 x33 x34 x35 x36 x37 x38 x39 x40 x41 x42 x43 x44 x45 x46 x47 x48 x49 x50 x51 x52 x53 x54 x55 x56 x57 x58 x59 x60 x61 x62 x63 x64 x65 x66 x67 x68 x69 x70 x71 x72 x73 x74 x75 x76 x77 x78 x79 x80 x81 x82 x83 x84 x85 x86 x87 x88 x89 x90 x91 x92 x93 x94 x95 x96 x97 x98 x99 x100 x101 x102 x103 x104 x105 x106 x107 x108 x109 x110 x111 x112 x113 x114 x115 x116 x117 x118 x119 x120 x121 x122 x123 x124 x125 x126 x127 x128 x129 x130 x131 x132 x133 x134 x135 x136 x137 x138 x139 x140 x141 x142 x143 x144 x145 x146 x147 x148 x149 x150 x151 x152 x153 x154 x155 x156 x157 x158 x159 x160 x161 x162 x163 x164 x165 x166 x167 x168 x169 x170 x171 x172 x173 x174 x175 x176 x177 x178 x179 x180 x181 x182 x183 x184 x185 x186 x187 x188 x189 x190 x191 x192 x193 x194 x195 x196 x197 x198 x199 x200 x201 x202 x203 x204 x205 x206 x207 x208 x209 x210 x211 x212 x213 x214 x215 x216 x217 x218 x219 x220 x221 x222 x223 x224 x225 x226 x227 x228 x229 x230 x231 x232 x233 x234 x235 x236 x237 x238 x239 x240 x241 x242 x243 x244 x245 x246 x247 x248 x249 x250 x251 x252 x253 x254 x255 x256 x257 x258 x259 : Value) (Q0 : Exit → Act → World → Prop)
    (hexit : ∀ (A' : Option Addr) (c' : Nat) (wr : World) (u16 u17 u18 u174 u175 u176 u177 u178 u179 u180 u181 u182 u183 u184 u185 u186 u187 u188 u189 u190 u191 u192 u193 u194 u195 u196 u197 u198 u199 u200 u201 u202 u203 u204 u205 u206 u207 u208 u209 u210 u211 u212 u213 u214 u215 u216 u217 u218 u219 u220 u221 u222 u223 u224 u225 u226 u227 u228 u229 u230 u231 u232 u233 u234 u235 u236 u237 u238 u239 u240 u241 u242 u243 u244 u245 u246 u247 u248 u249 u250 u251 u252 : Value), MkII wb wr A' (n + 1) c' (chTo p L n) → Q0 (.exit 10) ⟨List.toArray ((.int .i64 p) :: x1 :: x2 :: x3 :: x4 :: (.int .i64 n) :: x6 :: (.slice (some ⟨g, 0, none⟩) n c1) :: x8 :: x9 :: x10 :: x11 :: x12 :: x13 :: (.slice A' (n + 1) c') :: (.int .i64 ((n + 1 : Nat) : Int)) :: u16 :: u17 :: u18 :: x19 :: x20 :: x21 :: x22 :: x23 :: x24 :: x25 :: x26 :: x27 :: x28 :: x29 :: x30 :: x31 :: x32 :: x33 :: x34 :: x35 :: x36 :: x37 :: x38 :: x39 :: x40 :: x41 :: x42 :: x43 :: x44 :: x45 :: x46 :: x47 :: x48 :: x49 :: x50 :: x51 :: x52 :: x53 :: x54 :: x55 :: x56 :: x57 :: x58 :: x59 :: x60 :: x61 :: x62 :: x63 :: x64 :: x65 :: x66 :: x67 :: x68 :: x69 :: x70 :: x71 :: x72 :: x73 :: x74 :: x75 :: x76 :: x77 :: x78 :: x79 :: x80 :: x81 :: x82 :: x83 :: x84 :: x85 :: x86 :: x87 :: x88 :: x89 :: x90 :: x91 :: x92 :: x93 :: x94 :: x95 :: x96 :: x97 :: x98 :: x99 :: x100 :: x101 :: x102 :: x103 :: x104 :: x105 :: x106 :: x107 :: x108 :: x109 :: x110 :: x111 :: x112 :: x113 :: x114 :: x115 :: x116 :: x117 :: x118 :: x119 :: x120 :: x121 :: x122 :: x123 :: x124 :: x125 :: x126 :: x127 :: x128 :: x129 :: x130 :: x131 :: x132 :: x133 :: x134 :: x135 :: x136 :: x137 :: x138 :: x139 :: x140 :: x141 :: x142 :: x143 :: x144 :: x145 :: x146 :: x147 :: x148 :: x149 :: x150 :: x151 :: x152 :: x153 :: x154 :: x155 :: x156 :: x157 :: x158 :: x159 :: x160 :: x161 :: x162 :: x163 :: x164 :: x165 :: x166 :: x167 :: x168 :: x169 :: x170 :: x171 :: x172 :: x173 :: u174 :: u175 :: u176 :: u177 :: u178 :: u179 :: u180 :: u181 :: u182 :: u183 :: u184 :: u185 :: u186 :: u187 :: u188 :: u189 :: u190 :: u191 :: u192 :: u193 :: u194 :: u195 :: u196 :: u197 :: u198 :: u199 :: u200 :: u201 :: u202 :: u203 :: u204 :: u205 :: u206 :: u207 :: u208 :: u209 :: u210 :: u211 :: u212 :: u213 :: u214 :: u215 :: u216 :: u217 :: u218 :: u219 :: u220 :: u221 :: u222 :: u223 :: u224 :: u225 :: u226 :: u227 :: u228 :: u229 :: u230 :: u231 :: u232 :: u233 :: u234 :: u235 :: u236 :: u237 :: u238 :: u239 :: u240 :: u241 :: u242 :: u243 :: u244 :: u245 :: u246 :: u247 :: u248 :: u249 :: u250 :: u251 :: u252 :: x253 :: x254 :: x255 :: x256 :: x257 :: x258 :: x259 :: []), []⟩ wr) :
    Code.wp Tryz.prog (Code.loop (((Tryz.f167.body.map loopsOf).getD []).getD 1 .skip)) Q0 ⟨List.toArray ((.int .i64 p) :: x1 :: x2 :: x3 :: x4 :: (.int .i64 n) :: x6 :: (.slice (some ⟨g, 0, none⟩) n c1) :: x8 :: x9 :: x10 :: x11 :: x12 :: x13 :: (.slice A0 1 c0) :: (.int .i64 1) :: x16 :: x17 :: x18 :: x19 :: x20 :: x21 :: x22 :: x23 :: x24 :: x25 :: x26 :: x27 :: x28 :: x29 :: x30 :: x31 :: x32 :: x33 :: x34 :: x35 :: x36 :: x37 :: x38 :: x39 :: x40 :: x41 :: x42 :: x43 :: x44 :: x45 :: x46 :: x47 :: x48 :: x49 :: x50 :: x51 :: x52 :: x53 :: x54 :: x55 :: x56 :: x57 :: x58 :: x59 :: x60 :: x61 :: x62 :: x63 :: x64 :: x65 :: x66 :: x67 :: x68 :: x69 :: x70 :: x71 :: x72 :: x73 :: x74 :: x75 :: x76 :: x77 :: x78 :: x79 :: x80 :: x81 :: x82 :: x83 :: x84 :: x85 :: x86 :: x87 :: x88 :: x89 :: x90 :: x91 :: x92 :: x93 :: x94 :: x95 :: x96 :: x97 :: x98 :: x99 :: x100 :: x101 :: x102 :: x103 :: x104 :: x105 :: x106 :: x107 :: x108 :: x109 :: x110 :: x111 :: x112 :: x113 :: x114 :: x115 :: x116 :: x117 :: x118 :: x119 :: x120 :: x121 :: x122 :: x123 :: x124 :: x125 :: x126 :: x127 :: x128 :: x129 :: x130 :: x131 :: x132 :: x133 :: x134 :: x135 :: x136 :: x137 :: x138 :: x139 :: x140 :: x141 :: x142 :: x143 :: x144 :: x145 :: x146 :: x147 :: x148 :: x149 :: x150 :: x151 :: x152 :: x153 :: x154 :: x155 :: x156 :: x157 :: x158 :: x159 :: x160 :: x161 :: x162 :: x163 :: x164 :: x165 :: x166 :: x167 :: x168 :: x169 :: x170 :: x171 :: x172 :: x173 :: x174 :: x175 :: x176 :: x177 :: x178 :: x179 :: x180 :: x181 :: x182 :: x183 :: x184 :: x185 :: x186 :: x187 :: x188 :: x189 :: x190 :: x191 :: x192 :: x193 :: x194 :: x195 :: x196 :: x197 :: x198 :: x199 :: x200 :: x201 :: x202 :: x203 :: x204 :: x205 :: x206 :: x207 :: x208 :: x209 :: x210 :: x211 :: x212 :: x213 :: x214 :: x215 :: x216 :: x217 :: x218 :: x219 :: x220 :: x221 :: x222 :: x223 :: x224 :: x225 :: x226 :: x227 :: x228 :: x229 :: x230 :: x231 :: x232 :: x233 :: x234 :: x235 :: x236 :: x237 :: x238 :: x239 :: x240 :: x241 :: x242 :: x243 :: x244 :: x245 :: x246 :: x247 :: x248 :: x249 :: x250 :: x251 :: x252 :: x253 :: x254 :: x255 :: x256 :: x257 :: x258 :: x259 :: []), []⟩ w0 := by
 have hp0 : 0 < p := by omega
 have HEX := Lib.hid hexit
 clear hexit
 conv => arg 2; arg 1; whnf
 go_loopw [14, 15] (fun l q wr => ∃ (kk : Nat) (A' : Option Addr) (c' : Nat), kk ≤ n ∧ q = .int .i64 ((kk + 1 : Nat) : Int) ∧ l = .slice A' (kk + 1) c' ∧ MkII wb wr A' (kk + 1) c' (chTo p L kk)) (fun _ q _ => n + 1 - (intOf q).toNat)
 case atStart => exact ⟨0, _, _, by omega, rfl, rfl, hML⟩
 case round =>
  obtain ⟨kk, A', c', hkk, rfl, rfl, hM⟩ := hrel
  clear hML
  obtain ⟨kp, hkp⟩ : ∃ kp, kp = kk + 1 := ⟨_, rfl⟩
  rw [← hkp] at hM ⊢
  obtain ⟨gl, rfl, hxk, Ak, cA, hcl, hmk⟩ := hM.at_ (show kk < kp by omega)
  have hrow : (chTo p L kk)[kk] = chP p L kk := by unfold chP; rw [getD_of_lt [] hxk]
  have hrl : (chP p L kk).length = kp := by rw [chP_len, hkp]
  rw [hrow, hrl] at hcl hmk
  have hRn := chP_nums hp L kk
  obtain ⟨gA, oA, rfl, -⟩ := hmk.rd.2 (by omega)
  obtain ⟨R, hR⟩ : ∃ R, R = chP p L kk := ⟨_, rfl⟩
  have HCP := Lib.hid hR
  rw [← hR] at hmk hRn hrl
  have HBW := Lib.hid hM.b
  have HM := Lib.hid hM
  have HK := Lib.hid hkp
  by_cases hlk : kp ≤ n
  · have W1 : wrap64 ((kp : Int) - 1) = (kk : Int) := by rw [hkp]; unfold wrap64; omega
    have W1i : IntKind.i64.wrap ((kp : Int) - 1) = (kk : Int) := by rw [i64_fit _ (by omega) (by omega)]; omega
    have hkn : kk < n := by omega
    obtain ⟨KK, hKK⟩ : ∃ KK, KK = 1 + kp := ⟨_, rfl⟩
    have hz : MkI wr (wr.alloc (.cells #[.int .i64 0] 2)) (some ⟨wr.heap.size, 0, none⟩) 1 1 [0] := Mk.lit zG #[.int .i64 0] (by simp [maxLen])
    have HZ := Lib.hid hz
    have HRZ := Lib.hid ((show Rd wr (some ⟨gA, oA, none⟩) kp (ints R) from hmk.rd).below hz.b)
    have HRW := Lib.hid (show Rd wr (some ⟨gA, oA, none⟩) kp (ints R) from hmk.rd)
    have hclz := (hz.b.cell (World.block_lt_of_cell? _ _ hcl)).trans hcl
    have hk0 : 0 < kp := by omega
    have hkkp : kk < kp := by omega
    clear hkp hM hrow hxk hR hkk hmk hz
    go_wp2_with (at_builtin; refine wpList_appAll wr _ rfl _ _ rfl (some ⟨wr.heap.size, 0, none⟩) 1 1 [0] (some ⟨gA, oA, none⟩) kp cA R HZ.out HRZ.out hk0 (by omega) (by omega) rfl rfl ?_; intro A5 c5 w5 hM5 _)
    clear hclz HRZ HZ
    rw [← hKK] at hM5 ⊢
    obtain ⟨gm, cm, hcm, -, -, hnm, hcem, -⟩ := (HMB.out.below (HBW.out.trans (hM5.b.mono HBW.out.size))).rowAt HTT.out.1 (by omega) hkn
    have hcd := hcem kk hkn
    have hdb : 0 ≤ ent L kk kk ∧ ent L kk kk < p := hnm.getD hp0 kk
    obtain ⟨d, hd⟩ : ∃ d, d = ent L kk kk := ⟨_, rfl⟩
    rw [← hd] at hcd hdb
    have HD := Lib.hid hd
    have hcl := (hM5.b.cell (World.block_lt_of_cell? _ _ hcl)).trans hcl
    have HB5 := Lib.hid hM5.b
    have HR5 : Hid (Rd w5 A5 KK (ints (0 :: R)) ∧ NumsL p (0 :: R) ∧ Rd w5 (some ⟨gA, oA, none⟩) kp (ints R) ∧ NumsL p R) := Lib.hid ⟨hM5.rd, nums_cons hp0 hRn, HRW.out.below hM5.b, hRn⟩
    have Wd := i64_small (x := -d) (by omega) (by omega)
    have hKK2 : KK = kp + 1 := by omega
    have HKK := Lib.hid hKK2
    have hKa : kp ≤ KK := by omega
    have hKb : 0 < KK := by omega
    have hKc : KK ≤ 65536 := by omega
    clear hd hcem hnm hM5 HRW hKK hKK2
    go_wp2
    refine wp_obs 18 [[],[],[],[],[3],[2,3,4],[2,3,4,5],[],[],[8],[7,8,9],[7,8,9,10],[],[12],[7,8,9,10,11,12,13],[7,8,9,10,11,12,13,14],[7,8,9,10,11,12,13,14,15],[0,1,2,3,4,5,6,7,8,9,10,11,12,13,14,15,16],[0,1,2,3,4,5,6,7,8,9,10,11,12,13,14,15,16,17]] [VIs (.int .i64 (p)), VIs (.slice A5 KK c5), VIs (.slice (some ⟨gl, 0, none⟩) kp c'), VIs (.int .i64 (kp)), VIs (.int .i64 (kk)), VIs (.pointer (some ⟨gl, kk, none⟩)), VIs (.slice (some ⟨gA, oA, none⟩) kp cA), VIs (.slice (some ⟨g, 0, none⟩) n c1), VIs (.int .i64 (kp)), VIs (.int .i64 (kk)), VIs (.pointer (some ⟨g, kk, none⟩)), VIs (.slice (some ⟨gm, 0, none⟩) n cm), VIs (.int .i64 (kp)), VIs (.int .i64 (kk)), VIs (.pointer (some ⟨gm, kk, none⟩)), VIs (.int .i64 (d)), VIs (.int .i64 (-d)), VSl w5 KK (plusL p (0 :: R) R (-d))] (fun w' => w'.cell? ⟨gl, kk, none⟩ = some (.slice (some ⟨gA, oA, none⟩) kp cA) ∧ w'.cell? ⟨g, kk, none⟩ = some (.slice (some ⟨gm, 0, none⟩) n cm) ∧ w'.cell? ⟨gm, kk, none⟩ = some (.int .i64 d) ∧ Below w5.heap.size w5 w') (by kernel_rfl) (by kernel_rfl) (fun _ _ h hb => ⟨(hb.cell (World.block_lt_of_cell? _ _ h.1)).trans h.1, (hb.cell (World.block_lt_of_cell? _ _ h.2.1)).trans h.2.1, (hb.cell (World.block_lt_of_cell? _ _ h.2.2.1)).trans h.2.2.1, h.2.2.2.trans (hb.mono h.2.2.2.size)⟩) (⟨hcl, hcm, hcd, zG.drew⟩) (fun x => ?_)
    refine zS (fun w' hS hV K hK => ?_) ?_
    · have q0 := hS.1; have q1 := hS.2.1; have q2 := hS.2.2.1
      go_simp
      exact hK.out _ _ _ rfl rfl rfl zG
    refine zS (fun w' hS hV K hK => ?_) ?_
    · have q0 := hS.1; have q1 := hS.2.1; have q2 := hS.2.2.1
      go_simp
      exact hK.out _ _ _ rfl rfl rfl zG
    refine zS (fun w' hS hV K hK => ?_) ?_
    · have q0 := hS.1; have q1 := hS.2.1; have q2 := hS.2.2.1
      go_simp
      exact hK.out _ _ _ rfl rfl rfl zG
    refine zS (fun w' hS hV K hK => ?_) ?_
    · have q0 := hS.1; have q1 := hS.2.1; have q2 := hS.2.2.1
      go_simp
      exact hK.out _ _ _ rfl rfl rfl zG
    refine zS (fun w' hS hV K hK => ?_) ?_
    · have e3 := zQ hV 3
      have q0 := hS.1; have q1 := hS.2.1; have q2 := hS.2.2.1
      go_simp
      exact hK.out _ _ _ rfl rfl rfl zG
    refine zS (fun w' hS hV K hK => ?_) ?_
    · have e2 := zQ hV 2
      have e3 := zQ hV 3
      have e4 := zQ hV 4
      have q0 := hS.1; have q1 := hS.2.1; have q2 := hS.2.2.1
      go_simp
      exact hK.out _ _ _ rfl rfl rfl zG
    refine zS (fun w' hS hV K hK => ?_) ?_
    · have e2 := zQ hV 2
      have e3 := zQ hV 3
      have e4 := zQ hV 4
      have e5 := zQ hV 5
      have q0 := hS.1; have q1 := hS.2.1; have q2 := hS.2.2.1
      go_simp
      exact hK.out _ _ _ rfl rfl rfl zG
    refine zS (fun w' hS hV K hK => ?_) ?_
    · have q0 := hS.1; have q1 := hS.2.1; have q2 := hS.2.2.1
      go_simp
      exact hK.out _ _ _ rfl rfl rfl zG
    refine zS (fun w' hS hV K hK => ?_) ?_
    · have q0 := hS.1; have q1 := hS.2.1; have q2 := hS.2.2.1
      go_simp
      exact hK.out _ _ _ rfl rfl rfl zG
    refine zS (fun w' hS hV K hK => ?_) ?_
    · have e8 := zQ hV 8
      have q0 := hS.1; have q1 := hS.2.1; have q2 := hS.2.2.1
      go_simp
      exact hK.out _ _ _ rfl rfl rfl zG
    refine zS (fun w' hS hV K hK => ?_) ?_
    · have e7 := zQ hV 7
      have e8 := zQ hV 8
      have e9 := zQ hV 9
      have q0 := hS.1; have q1 := hS.2.1; have q2 := hS.2.2.1
      go_simp
      exact hK.out _ _ _ rfl rfl rfl zG
    refine zS (fun w' hS hV K hK => ?_) ?_
    · have e7 := zQ hV 7
      have e8 := zQ hV 8
      have e9 := zQ hV 9
      have e10 := zQ hV 10
      have q0 := hS.1; have q1 := hS.2.1; have q2 := hS.2.2.1
      go_simp
      exact hK.out _ _ _ rfl rfl rfl zG
    refine zS (fun w' hS hV K hK => ?_) ?_
    · have q0 := hS.1; have q1 := hS.2.1; have q2 := hS.2.2.1
      go_simp
      exact hK.out _ _ _ rfl rfl rfl zG
    refine zS (fun w' hS hV K hK => ?_) ?_
    · have e12 := zQ hV 12
      have q0 := hS.1; have q1 := hS.2.1; have q2 := hS.2.2.1
      go_simp
      exact hK.out _ _ _ rfl rfl rfl zG
    refine zS (fun w' hS hV K hK => ?_) ?_
    · have e7 := zQ hV 7
      have e8 := zQ hV 8
      have e9 := zQ hV 9
      have e10 := zQ hV 10
      have e11 := zQ hV 11
      have e12 := zQ hV 12
      have e13 := zQ hV 13
      have q0 := hS.1; have q1 := hS.2.1; have q2 := hS.2.2.1
      go_simp
      exact hK.out _ _ _ rfl rfl rfl zG
    refine zS (fun w' hS hV K hK => ?_) ?_
    · have e7 := zQ hV 7
      have e8 := zQ hV 8
      have e9 := zQ hV 9
      have e10 := zQ hV 10
      have e11 := zQ hV 11
      have e12 := zQ hV 12
      have e13 := zQ hV 13
      have e14 := zQ hV 14
      have q0 := hS.1; have q1 := hS.2.1; have q2 := hS.2.2.1
      go_simp
      exact hK.out _ _ _ rfl rfl rfl zG
    refine zS (fun w' hS hV K hK => ?_) ?_
    · have e7 := zQ hV 7
      have e8 := zQ hV 8
      have e9 := zQ hV 9
      have e10 := zQ hV 10
      have e11 := zQ hV 11
      have e12 := zQ hV 12
      have e13 := zQ hV 13
      have e14 := zQ hV 14
      have e15 := zQ hV 15
      have q0 := hS.1; have q1 := hS.2.1; have q2 := hS.2.2.1
      go_simp
      exact hK.out _ _ _ rfl rfl rfl zG
    refine zS (fun w' hS hV K hK => ?_) ?_
    · have e0 := zQ hV 0
      have e1 := zQ hV 1
      have e2 := zQ hV 2
      have e3 := zQ hV 3
      have e4 := zQ hV 4
      have e5 := zQ hV 5
      have e6 := zQ hV 6
      have e7 := zQ hV 7
      have e8 := zQ hV 8
      have e9 := zQ hV 9
      have e10 := zQ hV 10
      have e11 := zQ hV 11
      have e12 := zQ hV 12
      have e13 := zQ hV 13
      have e14 := zQ hV 14
      have e15 := zQ hV 15
      have e16 := zQ hV 16
      have q0 := hS.1; have q1 := hS.2.1; have q2 := hS.2.2.1
      go_simp
      refine (added_any p A5 KK c5 _ kp cA (-d) (0 :: R) R _ hp hp2 (by omega) (by omega) (by omega) (HR5.out.1.below hS.2.2.2) HR5.out.2.1 (HR5.out.2.2.1.below hS.2.2.2) HR5.out.2.2.2 (by omega) (by omega)).mono ?_
      rintro e v1 ⟨A2, c2, rfl, hM⟩
      exact hK.out _ _ _ rfl rfl ⟨_, _, rfl, hM.after hS.2.2.2⟩ hM.b
    refine fun w' hS hV => ?_
    have e0 := zT hV 0
    have e1 := zT hV 1
    have e2 := zT hV 2
    have e3 := zT hV 3
    have e4 := zT hV 4
    have e5 := zT hV 5
    have e6 := zT hV 6
    have e7 := zT hV 7
    have e8 := zT hV 8
    have e9 := zT hV 9
    have e10 := zT hV 10
    have e11 := zT hV 11
    have e12 := zT hV 12
    have e13 := zT hV 13
    have e14 := zT hV 14
    have e15 := zT hV 15
    have e16 := zT hV 16
    obtain ⟨A17, c17, e17, h17⟩ := hV 17 (by decide)
    simp only [e0, e1, e2, e3, e4, e5, e6, e7, e8, e9, e10, e11, e12, e13, e14, e15, e16, e17]
    clear e0 e1 e2 e3 e4 e5 e6 e7 e8 e9 e10 e11 e12 e13 e14 e15 e16 e17
    have HB6 := Lib.hid (HB5.out.trans (hS.2.2.2.mono HB5.out.size))
    have HNX := Lib.hid (h17.after HB5.out)
    refine any_one (j := 18) (by kernel_rfl) (Eq.trans (by simp only [zA, zB, zC]; exact rfl) rfl) (fun K0 hK0 => ?_)
    go_simp
    refine hK0.out _ _ (wpAny_done (by kernel_rfl) ?_ _)
    have hM6 : MkI wr w' A17 KK c17 (chN p L (chTo p L kk) kp 0) := by
     have e : chN p L (chTo p L kk) kp 0 = plusL p (0 :: R) R (-d) := by
      unfold chN
      have e2 : kp - 1 = kk := by have := HK.out; omega
      rw [e2, HCP.out, HD.out]; rfl
     rw [e]; exact HNX.out
    clear hS hV h17 hcl hcm hcd hdb Wd HR5 HD HNX HB5 HB6
    go_wp2
    go_loopw [16, 17, 18] (fun nx fa iv wr' => ∃ (i : Nat) (A6 : Option Addr) (c6 : Nat), i + 1 ≤ kp ∧ iv = .int .i64 ((i + 1 : Nat) : Int) ∧ fa = .int .i64 (chF p L kp i) ∧ nx = .slice A6 KK c6 ∧ MkI wr wr' A6 KK c6 (chN p L (chTo p L kk) kp i)) (fun _ _ iv _ => kp - (intOf iv).toNat)
    case atStart => exact ⟨0, _, _, by omega, rfl, rfl, rfl, hM6⟩
    case round =>
     obtain ⟨i, A6, c6, hi, rfl, rfl, rfl, hM7⟩ := hrel
     rename World => wr'
     clear hM6
     obtain ⟨I, hI⟩ : ∃ I, I = i + 1 := ⟨_, rfl⟩
     rw [← hI]
     by_cases hlI : I < kp
     · obtain ⟨a, ha⟩ : ∃ a, a = kp - I := ⟨_, rfl⟩
       obtain ⟨b, hb⟩ : ∃ b, b = kp - I - 1 := ⟨_, rfl⟩
       have W2 : wrap64 ((kp : Int) - (I : Int)) = (a : Int) := by rw [ha]; unfold wrap64; omega
       have W2i : IntKind.i64.wrap ((kp : Int) - (I : Int)) = (a : Int) := by rw [i64_fit _ (by omega) (by omega)]; omega
       have W3 : wrap64 ((a : Int) - 1) = (b : Int) := by rw [ha, hb]; unfold wrap64; omega
       have W3i : IntKind.i64.wrap ((a : Int) - 1) = (b : Int) := by rw [i64_fit _ (by omega) (by omega)]; omega
       have han : a < n := by omega
       have hbn : b < n := by omega
       have hbK : b < kp := by omega
       have hML := HM.out.below hM7.b
       have hMH := HMB.out.below (HBW.out.trans (hM7.b.mono HBW.out.size))
       obtain ⟨ga, ca, hcma, -, -, hna, hcea, -⟩ := hMH.rowAt HTT.out.1 (by omega) han
       obtain ⟨gb, cb, hcmb, -, -, hnb, hceb, -⟩ := hMH.rowAt HTT.out.1 (by omega) hbn
       have hcx := hcea b hbn
       have hcz := hceb kk hkn
       have hxb : 0 ≤ ent L a b ∧ ent L a b < p := hna.getD hp0 b
       have hzb : 0 ≤ ent L b kk ∧ ent L b kk < p := hnb.getD hp0 kk
       obtain ⟨x, hx⟩ : ∃ x, x = ent L a b := ⟨_, rfl⟩
       obtain ⟨z, hz⟩ : ∃ z, z = ent L b kk := ⟨_, rfl⟩
       rw [← hx] at hcx hxb
       rw [← hz] at hcz hzb
       obtain ⟨g0, e0, hxb2, AB, cB, hclb, hmB⟩ := hML.at_ hbK
       injection e0 with e0; injection e0 with e0 _ _; subst e0
       have hrowB : (chTo p L kk)[b] = chP p L b := by
        have := chTo_old p L (k := kk) (j := b) (by have := HK.out; omega)
        rw [getD_of_lt [] hxb2] at this
        exact this
       have hrlB : (chP p L b).length = b + 1 := chP_len p L b
       rw [hrowB, hrlB] at hclb hmB
       obtain ⟨gB, oB, rfl, -⟩ := hmB.rd.2 (by omega)
       have hR2n := chP_nums hp L b
       obtain ⟨R2, hR2⟩ : ∃ R2, R2 = chP p L b := ⟨_, rfl⟩
       rw [← hR2] at hmB hR2n
       have hfb : 0 ≤ chF p L kp i ∧ chF p L kp i < p := by
        cases i with
        | zero => exact ⟨by show (0 : Int) ≤ 1; omega, by show (1 : Int) < p; omega⟩
        | succ i => exact ⟨Int.emod_nonneg _ (by omega), Int.emod_lt_of_pos _ (by omega)⟩
       obtain ⟨fa, hfa⟩ : ∃ fa, fa = chF p L kp i := ⟨_, rfl⟩
       rw [← hfa] at hfb ⊢
       have hfx := mul_b (a := fa) (b := x) (by omega) (by omega)
       have W4 := i64_small (x := fa * x) (by omega) (by omega)
       have W4p : wrap64 (fa * x) = fa * x := by unfold wrap64; omega
       obtain ⟨f2, hf2⟩ : ∃ f2, f2 = fa * x % p := ⟨_, rfl⟩
       have hf2b : 0 ≤ f2 ∧ f2 < p := by rw [hf2]; exact ⟨Int.emod_nonneg _ (by omega), Int.emod_lt_of_pos _ (by omega)⟩
       have HF2 : Hid (chF p L kp I = f2) := Lib.hid (by
        rw [hI]
        show (chF p L kp i * ent L (kp - (i + 1)) (kp - (i + 1) - 1)) % p = f2
        rw [← hI, ← ha, show a - 1 = b by omega, ← hx, ← hfa, hf2])
       have hmz := mul_b (a := f2) (b := z) (by omega) (by omega)
       have hmz2 : f2 * z ≤ 144 := by
        have h9 := Int.mul_le_mul (show f2 ≤ 12 by omega) (show z ≤ 12 by omega) hzb.1 (by omega : (0 : Int) ≤ 12)
        omega
       have hneg : -f2 * z = -(f2 * z) := Int.neg_mul _ _
       have W5 := i64_small (x := -f2) (by omega) (by omega)
       have W6 := i64_small (x := -f2 * z) (by omega) (by omega)
       have hk1 : -1000 ≤ -f2 * z := by omega
       have hk2 : -f2 * z ≤ 1000 := by omega
       obtain ⟨X, hX⟩ : ∃ X, X = chN p L (chTo p L kk) kp i := ⟨_, rfl⟩
       rw [← hX] at hM7
       have HNN : Hid (chN p L (chTo p L kk) kp I = plusL p X R2 (-f2 * z)) := Lib.hid (by
        have e2 : kp - I - 1 = b := hb.symm
        have e3 : kp - 1 = kk := by have := HK.out; omega
        rw [hI]
        show plusL p (chN p L (chTo p L kk) kp i) ((chTo p L kk).getD (kp - (i + 1) - 1) []) (-(chF p L kp (i + 1)) * ent L (kp - (i + 1) - 1) (kp - 1)) = _
        rw [← hI, HF2.out, e2, e3, ← hz, ← hX, hR2]
        congr 1
        exact chTo_old p L (by have := HK.out; omega))
       have hXn : NumsL p X := by rw [hX]; exact chN_nums hp0 _ _ _ _
       have HR6 : Hid (Rd wr' A6 KK (ints X) ∧ NumsL p X ∧ Rd wr' (some ⟨gB, oB, none⟩) (b + 1) (ints R2) ∧ NumsL p R2) := Lib.hid ⟨hM7.rd, hXn, hmB.rd, hR2n⟩
       have HM7 := Lib.hid hM7.b
       have hnum := fun w' => num_any p (fa * x) w' hp0 hp2 (by omega) (by omega)
       rw [← hf2] at hnum
       have HI := Lib.hid hI
       have hbk1 : b + 1 ≤ KK := by have := HKK.out; omega
       clear hx hz ha hb hfa hf2 hX hXn hR2 hR2n hmB hrowB hrlB hxb2 hcea hceb hna hnb hMH hML hM7 hneg hmz hmz2 hI hfx
       go_wp2_with fail
       refine (hnum _).mono ?_
       rintro e w8 ⟨rfl, rfl⟩
       clear hnum hcx hcma
       go_wp2
       refine wp_obs 24 [[],[],[],[],[],[3,4],[3,4,5],[2,3,4,5,6],[2,3,4,5,6,7],[],[9],[],[],[],[12,13],[12,13,14],[11,12,13,14,15],[11,12,13,14,15,16],[],[18],[11,12,13,14,15,16,17,18,19],[11,12,13,14,15,16,17,18,19,20],[9,10,11,12,13,14,15,16,17,18,19,20,21],[0,1,2,3,4,5,6,7,8,9,10,11,12,13,14,15,16,17,18,19,20,21,22],[0,1,2,3,4,5,6,7,8,9,10,11,12,13,14,15,16,17,18,19,20,21,22,23]] [VIs (.int .i64 (p)), VIs (.slice A6 KK c6), VIs (.slice (some ⟨gl, 0, none⟩) kp c'), VIs (.int .i64 (kp)), VIs (.int .i64 (I)), VIs (.int .i64 (a)), VIs (.int .i64 (b)), VIs (.pointer (some ⟨gl, b, none⟩)), VIs (.slice (some ⟨gB, oB, none⟩) (b + 1) cB), VIs (.int .i64 (f2)), VIs (.int .i64 (-f2)), VIs (.slice (some ⟨g, 0, none⟩) n c1), VIs (.int .i64 (kp)), VIs (.int .i64 (I)), VIs (.int .i64 (a)), VIs (.int .i64 (b)), VIs (.pointer (some ⟨g, b, none⟩)), VIs (.slice (some ⟨gb, 0, none⟩) n cb), VIs (.int .i64 (kp)), VIs (.int .i64 (kk)), VIs (.pointer (some ⟨gb, kk, none⟩)), VIs (.int .i64 (z)), VIs (.int .i64 (-f2 * z)), VSl wr' KK (plusL p X R2 (-f2 * z))] (fun w' => w'.cell? ⟨gl, b, none⟩ = some (.slice (some ⟨gB, oB, none⟩) (b + 1) cB) ∧ w'.cell? ⟨g, b, none⟩ = some (.slice (some ⟨gb, 0, none⟩) n cb) ∧ w'.cell? ⟨gb, kk, none⟩ = some (.int .i64 z) ∧ Below wr'.heap.size wr' w') (by kernel_rfl) (by kernel_rfl) (fun _ _ h hb => ⟨(hb.cell (World.block_lt_of_cell? _ _ h.1)).trans h.1, (hb.cell (World.block_lt_of_cell? _ _ h.2.1)).trans h.2.1, (hb.cell (World.block_lt_of_cell? _ _ h.2.2.1)).trans h.2.2.1, h.2.2.2.trans (hb.mono h.2.2.2.size)⟩) (⟨hclb, hcmb, hcz, zG.drew⟩) (fun x => ?_)
       refine zS (fun w' hS hV K hK => ?_) ?_
       · have q0 := hS.1; have q1 := hS.2.1; have q2 := hS.2.2.1
         go_simp
         exact hK.out _ _ _ rfl rfl rfl zG
       refine zS (fun w' hS hV K hK => ?_) ?_
       · have q0 := hS.1; have q1 := hS.2.1; have q2 := hS.2.2.1
         go_simp
         exact hK.out _ _ _ rfl rfl rfl zG
       refine zS (fun w' hS hV K hK => ?_) ?_
       · have q0 := hS.1; have q1 := hS.2.1; have q2 := hS.2.2.1
         go_simp
         exact hK.out _ _ _ rfl rfl rfl zG
       refine zS (fun w' hS hV K hK => ?_) ?_
       · have q0 := hS.1; have q1 := hS.2.1; have q2 := hS.2.2.1
         go_simp
         exact hK.out _ _ _ rfl rfl rfl zG
       refine zS (fun w' hS hV K hK => ?_) ?_
       · have q0 := hS.1; have q1 := hS.2.1; have q2 := hS.2.2.1
         go_simp
         exact hK.out _ _ _ rfl rfl rfl zG
       refine zS (fun w' hS hV K hK => ?_) ?_
       · have e3 := zQ hV 3
         have e4 := zQ hV 4
         have q0 := hS.1; have q1 := hS.2.1; have q2 := hS.2.2.1
         go_simp
         exact hK.out _ _ _ rfl rfl rfl zG
       refine zS (fun w' hS hV K hK => ?_) ?_
       · have e3 := zQ hV 3
         have e4 := zQ hV 4
         have e5 := zQ hV 5
         have q0 := hS.1; have q1 := hS.2.1; have q2 := hS.2.2.1
         go_simp
         exact hK.out _ _ _ rfl rfl rfl zG
       refine zS (fun w' hS hV K hK => ?_) ?_
       · have e2 := zQ hV 2
         have e3 := zQ hV 3
         have e4 := zQ hV 4
         have e5 := zQ hV 5
         have e6 := zQ hV 6
         have q0 := hS.1; have q1 := hS.2.1; have q2 := hS.2.2.1
         go_simp
         exact hK.out _ _ _ rfl rfl rfl zG
       refine zS (fun w' hS hV K hK => ?_) ?_
       · have e2 := zQ hV 2
         have e3 := zQ hV 3
         have e4 := zQ hV 4
         have e5 := zQ hV 5
         have e6 := zQ hV 6
         have e7 := zQ hV 7
         have q0 := hS.1; have q1 := hS.2.1; have q2 := hS.2.2.1
         go_simp
         exact hK.out _ _ _ rfl rfl rfl zG
       refine zS (fun w' hS hV K hK => ?_) ?_
       · have q0 := hS.1; have q1 := hS.2.1; have q2 := hS.2.2.1
         go_simp
         exact hK.out _ _ _ rfl rfl rfl zG
       refine zS (fun w' hS hV K hK => ?_) ?_
       · have e9 := zQ hV 9
         have q0 := hS.1; have q1 := hS.2.1; have q2 := hS.2.2.1
         go_simp
         exact hK.out _ _ _ rfl rfl rfl zG
       refine zS (fun w' hS hV K hK => ?_) ?_
       · have q0 := hS.1; have q1 := hS.2.1; have q2 := hS.2.2.1
         go_simp
         exact hK.out _ _ _ rfl rfl rfl zG
       refine zS (fun w' hS hV K hK => ?_) ?_
       · have q0 := hS.1; have q1 := hS.2.1; have q2 := hS.2.2.1
         go_simp
         exact hK.out _ _ _ rfl rfl rfl zG
       refine zS (fun w' hS hV K hK => ?_) ?_
       · have q0 := hS.1; have q1 := hS.2.1; have q2 := hS.2.2.1
         go_simp
         exact hK.out _ _ _ rfl rfl rfl zG
       refine zS (fun w' hS hV K hK => ?_) ?_
       · have e12 := zQ hV 12
         have e13 := zQ hV 13
         have q0 := hS.1; have q1 := hS.2.1; have q2 := hS.2.2.1
         go_simp
         exact hK.out _ _ _ rfl rfl rfl zG
       refine zS (fun w' hS hV K hK => ?_) ?_
       · have e12 := zQ hV 12
         have e13 := zQ hV 13
         have e14 := zQ hV 14
         have q0 := hS.1; have q1 := hS.2.1; have q2 := hS.2.2.1
         go_simp
         exact hK.out _ _ _ rfl rfl rfl zG
       refine zS (fun w' hS hV K hK => ?_) ?_
       · have e11 := zQ hV 11
         have e12 := zQ hV 12
         have e13 := zQ hV 13
         have e14 := zQ hV 14
         have e15 := zQ hV 15
         have q0 := hS.1; have q1 := hS.2.1; have q2 := hS.2.2.1
         go_simp
         exact hK.out _ _ _ rfl rfl rfl zG
       refine zS (fun w' hS hV K hK => ?_) ?_
       · have e11 := zQ hV 11
         have e12 := zQ hV 12
         have e13 := zQ hV 13
         have e14 := zQ hV 14
         have e15 := zQ hV 15
         have e16 := zQ hV 16
         have q0 := hS.1; have q1 := hS.2.1; have q2 := hS.2.2.1
         go_simp
         exact hK.out _ _ _ rfl rfl rfl zG
       refine zS (fun w' hS hV K hK => ?_) ?_
       · have q0 := hS.1; have q1 := hS.2.1; have q2 := hS.2.2.1
         go_simp
         exact hK.out _ _ _ rfl rfl rfl zG
       refine zS (fun w' hS hV K hK => ?_) ?_
       · have e18 := zQ hV 18
         have q0 := hS.1; have q1 := hS.2.1; have q2 := hS.2.2.1
         go_simp
         exact hK.out _ _ _ rfl rfl rfl zG
       refine zS (fun w' hS hV K hK => ?_) ?_
       · have e11 := zQ hV 11
         have e12 := zQ hV 12
         have e13 := zQ hV 13
         have e14 := zQ hV 14
         have e15 := zQ hV 15
         have e16 := zQ hV 16
         have e17 := zQ hV 17
         have e18 := zQ hV 18
         have e19 := zQ hV 19
         have q0 := hS.1; have q1 := hS.2.1; have q2 := hS.2.2.1
         go_simp
         exact hK.out _ _ _ rfl rfl rfl zG
       refine zS (fun w' hS hV K hK => ?_) ?_
       · have e11 := zQ hV 11
         have e12 := zQ hV 12
         have e13 := zQ hV 13
         have e14 := zQ hV 14
         have e15 := zQ hV 15
         have e16 := zQ hV 16
         have e17 := zQ hV 17
         have e18 := zQ hV 18
         have e19 := zQ hV 19
         have e20 := zQ hV 20
         have q0 := hS.1; have q1 := hS.2.1; have q2 := hS.2.2.1
         go_simp
         exact hK.out _ _ _ rfl rfl rfl zG
       refine zS (fun w' hS hV K hK => ?_) ?_
       · have e9 := zQ hV 9
         have e10 := zQ hV 10
         have e11 := zQ hV 11
         have e12 := zQ hV 12
         have e13 := zQ hV 13
         have e14 := zQ hV 14
         have e15 := zQ hV 15
         have e16 := zQ hV 16
         have e17 := zQ hV 17
         have e18 := zQ hV 18
         have e19 := zQ hV 19
         have e20 := zQ hV 20
         have e21 := zQ hV 21
         have q0 := hS.1; have q1 := hS.2.1; have q2 := hS.2.2.1
         go_simp
         exact hK.out _ _ _ rfl rfl rfl zG
       refine zS (fun w' hS hV K hK => ?_) ?_
       · have e0 := zQ hV 0
         have e1 := zQ hV 1
         have e2 := zQ hV 2
         have e3 := zQ hV 3
         have e4 := zQ hV 4
         have e5 := zQ hV 5
         have e6 := zQ hV 6
         have e7 := zQ hV 7
         have e8 := zQ hV 8
         have e9 := zQ hV 9
         have e10 := zQ hV 10
         have e11 := zQ hV 11
         have e12 := zQ hV 12
         have e13 := zQ hV 13
         have e14 := zQ hV 14
         have e15 := zQ hV 15
         have e16 := zQ hV 16
         have e17 := zQ hV 17
         have e18 := zQ hV 18
         have e19 := zQ hV 19
         have e20 := zQ hV 20
         have e21 := zQ hV 21
         have e22 := zQ hV 22
         have q0 := hS.1; have q1 := hS.2.1; have q2 := hS.2.2.1
         go_simp
         refine (added_any p A6 KK c6 _ (b + 1) cB (-f2 * z) X R2 _ hp hp2 (by omega) (by omega) (by omega) (HR6.out.1.below hS.2.2.2) HR6.out.2.1 (HR6.out.2.2.1.below hS.2.2.2) HR6.out.2.2.2 (by omega) (by omega)).mono ?_
         rintro e v1 ⟨A2, c2, rfl, hM⟩
         exact hK.out _ _ _ rfl rfl ⟨_, _, rfl, hM.after hS.2.2.2⟩ hM.b
       refine fun w' hS hV => ?_
       have e0 := zT hV 0
       have e1 := zT hV 1
       have e2 := zT hV 2
       have e3 := zT hV 3
       have e4 := zT hV 4
       have e5 := zT hV 5
       have e6 := zT hV 6
       have e7 := zT hV 7
       have e8 := zT hV 8
       have e9 := zT hV 9
       have e10 := zT hV 10
       have e11 := zT hV 11
       have e12 := zT hV 12
       have e13 := zT hV 13
       have e14 := zT hV 14
       have e15 := zT hV 15
       have e16 := zT hV 16
       have e17 := zT hV 17
       have e18 := zT hV 18
       have e19 := zT hV 19
       have e20 := zT hV 20
       have e21 := zT hV 21
       have e22 := zT hV 22
       obtain ⟨A23, c23, e23, h23⟩ := hV 23 (by decide)
       simp only [e0, e1, e2, e3, e4, e5, e6, e7, e8, e9, e10, e11, e12, e13, e14, e15, e16, e17, e18, e19, e20, e21, e22, e23]
       clear e0 e1 e2 e3 e4 e5 e6 e7 e8 e9 e10 e11 e12 e13 e14 e15 e16 e17 e18 e19 e20 e21 e22 e23
       have HB8 := Lib.hid (HM7.out.trans (hS.2.2.2.mono HM7.out.size))
       have HNX := Lib.hid (h23.after HM7.out)
       refine any_one (j := 24) (by kernel_rfl) (Eq.trans (by simp only [zA, zB, zC]; exact rfl) rfl) (fun K0 hK0 => ?_)
       go_simp
       refine hK0.out _ _ (wpAny_done (by kernel_rfl) ?_ _)
       clear hS hV h23 hclb hcmb hcz hzb W2 W2i W3 W3i W4 W4p W5 W6
       go_wp2
       go_roundw
       case rel => exact ⟨I, A23, c23, by have := HI.out; omega, by go_num, by rw [HF2.out], rfl, by rw [HNN.out]; exact HNX.out⟩
       case measure => have := HI.out; simp [intOf]; omega
     · have hIK : I = kp := by omega
       have hik : i = kk := by have := HK.out; omega
       rw [hik] at hM7
       clear hik hI hi
       rw [hIK]
       have hrM : Mk wr wr' 2 A6 KK c6 (ints (chN p L (chTo p L kk) kp kk)) := hM7
       have HRM := Lib.hid hrM
       clear hM7 hrM hlI hIK
       go_wp2_with (at_builtin; refine wpList_appRow wb wr _ rfl _ _ rfl (some ⟨gl, 0, none⟩) kp c' _ A6 KK c6 _ HM.out HRM.out (by omega) rfl ?_ ?_; (go_simp); intro A20 c20 w24 hM20)
       have hM21 : MkII wb w24 A20 (kp + 1) c20 (chTo p L kp) := by
        have e : chTo p L kp = chTo p L kk ++ [chN p L (chTo p L kk) kp kk] := by
         have := HK.out
         subst this; rfl
        rw [e]; exact hM20
       clear hM20
       go_roundw
       case rel => exact ⟨kp, A20, c20, hlk, by go_num, rfl, hM21⟩
       case measure => simp [intOf]; omega
  · have hkn : kk = n := by omega
    have hkpn : kp = n + 1 := by omega
    clear hcl hmk hrl HCP hRn hxk hrow
    go_wp2
    rw [hkn] at hM
    rw [hkpn] at hM ⊢
    exact HEX.out _ _ _ _ _ _ _ _ _ _ _ _ _ _ _ _ _ _ _ _ _ _ _ _ _ _ _ _ _ _ _ _ _ _ _ _ _ _ _ _ _ _ _ _ _ _ _ _ _ _ _ _ _ _ _ _ _ _ _ _ _ _ _ _ _ _ _ _ _ _ _ _ _ _ _ _ _ _ _ _ _ _ _ _ _ hM
end Go.Proofs.YtmkjdpnoloofjaaGreat
