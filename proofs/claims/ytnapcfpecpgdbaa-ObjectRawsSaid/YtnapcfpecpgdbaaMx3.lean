/- The program's functions as plain functions, and that each call comes to what these tell; written by a program of this session, some contracts by hand. Conditions: none. -/
import Derived.Test.YtnapcfpecpgdbaaMx0
import Derived.Test.YtnapcfpecpgdbaaMx2
namespace Go.Proofs.Ytnapcfpecpgdbaa.M
open Go.RowKit Go.Proofs.YtnapcfpecpgdbaaW.PrintWords Go.Proofs.YtnapcfpecpgdbaaW.PrintLast Go.Proofs.YtnapcfpecpgdbaaW.PrintMore
attribute [local go_sem] max2_int min2_int max_two min_two max_three min_three max_four min_four   -- for this text's walks alone
set_option linter.unusedVariables false
set_option linter.unusedSimpArgs false

/-! ### sum_Of: function 29 (given by hand) -/
theorem sum_Of.info : (Try.prog.info? 5).map (fun i => (i.zero, i.size, i.bytes)) = some (some (.int .u8 0), 1, 1) := by kernel_rfl
/-- Numbers as an array's cells. -/
def u32s (xs : List Int) : Array Value := (xs.map (Value.int .u32)).toArray
theorem u32s_size (xs : List Int) : (u32s xs).size = xs.length := by
  unfold u32s
  rw [List.size_toArray, List.length_map]
def sum_beginV : List Int := [1779033703, 3144134277, 1013904242, 2773480762, 1359893119, 2600822924, 528734635, 1541459225]
set_option maxRecDepth 100000 in
theorem sum_begin.calls (w : World) : Calls Try.prog 58 #[] w fun e w' => e = .returned (.agg (u32s sum_beginV)) ∧ Below w.heap.size w w' := by
  go_enter Try.func58, Try.ntmps58
  go_wp2
  exact bodyPost_ret (v := .agg (u32s sum_beginV)) (results_cell_row rfl _ _ w.heap.size 71 (u32s sum_beginV) (0, 0) _ rfl (heap_alloc_new w _) Try.underlying71 rfl (by kernel_rfl)) rfl ⟨rfl, below_alloc (Below.refl _ _) _⟩
def sum_saltsV : List Int := [1116352408, 1899447441, 3049323471, 3921009573, 961987163, 1508970993, 2453635748, 2870763221, 3624381080, 310598401, 607225278, 1426881987, 1925078388, 2162078206, 2614888103, 3248222580, 3835390401, 4022224774, 264347078, 604807628, 770255983, 1249150122, 1555081692, 1996064986, 2554220882, 2821834349, 2952996808, 3210313671, 3336571891, 3584528711, 113926993, 338241895, 666307205, 773529912, 1294757372, 1396182291, 1695183700, 1986661051, 2177026350, 2456956037, 2730485921, 2820302411, 3259730800, 3345764771, 3516065817, 3600352804, 4094571909, 275423344, 430227734, 506948616, 659060556, 883997877, 958139571, 1322822218, 1537002063, 1747873779, 1955562222, 2024104815, 2227730452, 2361852424, 2428436474, 2756734187, 3204031479, 3329325298]
/-- An array among the blocks. -/
def Arr (w : World) (b : Nat) (t : TypeId) (xs : List Int) : Prop := w.heap[b]? = some (.cells (u32s xs) t (0, 0))
theorem u32s_get (xs : List Int) (i : Nat) (h : i < xs.length) : (u32s xs)[i]? = some (.int .u32 (rd xs (i : Int))) := by
  unfold u32s rd
  rw [List.getElem?_toArray, List.getElem?_map, List.getElem?_eq_getElem h, Int.toNat_natCast, List.getD, List.getElem?_eq_getElem h]
  rfl
theorem Arr.cell {w : World} {b : Nat} {t : TypeId} {xs : List Int} (h : Arr w b t xs) (i : Int) (h0 : 0 ≤ i) (h1 : i < xs.length) : w.cell? ⟨b, i.toNat, none⟩ = some (.int .u32 (rd xs i)) := by
  obtain ⟨n, rfl⟩ : ∃ n : Nat, i = n := ⟨i.toNat, by omega⟩
  have h2 := u32s_get xs n (by omega)
  rw [Int.toNat_natCast, ← h2]
  exact cell_of_row w b n (u32s xs) t (0, 0) h
theorem Arr.cellN {w : World} {b : Nat} {t : TypeId} {xs : List Int} (h : Arr w b t xs) (i : Nat) (h1 : i < xs.length) : w.cell? ⟨b, i, none⟩ = some (.int .u32 (rd xs (i : Int))) := by
  have := h.cell (i : Int) (by omega) (by omega)
  rwa [Int.toNat_natCast] at this
theorem Arr.lt {w : World} {b : Nat} {t : TypeId} {xs : List Int} (h : Arr w b t xs) : b < w.heap.size := by
  unfold Arr at h
  exact (Array.getElem?_eq_some_iff.mp h).1
theorem Arr.drewN {w : World} {b : Nat} {t : TypeId} {xs : List Int} (h : Arr w b t xs) (n : Nat) : Arr (w.drewN n) b t xs := h
theorem Arr.alloc {w : World} {b : Nat} {t : TypeId} {xs : List Int} (h : Arr w b t xs) (o : Obj) : Arr (w.alloc o) b t xs := by
  have hlt := h.lt
  unfold Arr at h ⊢
  rw [← h]
  first | exact heap_alloc_old w o b hlt | exact heap_alloc_old w o hlt
theorem Arr.new (w : World) (t : TypeId) (xs : List Int) : Arr (w.alloc (.cells (u32s xs) t)) w.heap.size t xs := heap_alloc_new w _
theorem Arr.far {w : World} {b : Nat} {t : TypeId} {xs : List Int} (h : Arr w b t xs) (p : Addr) (v : Value) (hne : b ≠ p.block) : Arr (w.setCell p v) b t xs := (Below.heap_setCell w p v b hne).trans h
theorem Arr.set {w : World} {b : Nat} {t : TypeId} {xs : List Int} (h : Arr w b t xs) (i : Nat) (hi : i < xs.length) (v : Int) : Arr (w.setCell ⟨b, i, none⟩ (.int .u32 v)) b t (xs.set i v) := by
  have e : (u32s xs).setIfInBounds i (.int .u32 v) = u32s (xs.set i v) := by
    unfold u32s
    rw [List.setIfInBounds_toArray, List.map_set]
  have h2 := blk_set h i (.int .u32 v)
  rw [e] at h2
  exact h2
theorem Arr.frozen {w : World} {b : Nat} {t : TypeId} {xs : List Int} (h : Arr w b t xs) (i : Nat) : w.frozen? ⟨b, i, none⟩ = false := by
  unfold Arr at h
  simp [World.frozen?, h]
theorem sz_alloc (w : World) (o : Obj) : (w.alloc o).heap.size = w.heap.size + 1 := by
  show (w.heap.push o).size = _
  exact Array.size_push _
theorem Arr.newAt (w : World) (t : TypeId) (xs : List Int) {b : Nat} (hb : w.heap.size = b) (cs : Array Value) (hc : cs = u32s xs) : Arr (w.alloc (.cells cs t)) b t xs := by
  subst hb
  subst hc
  exact Arr.new w t xs
theorem Arr.below {w w1 : World} {b : Nat} {t : TypeId} {xs : List Int} (h : Arr w b t xs) (hb : Below w.heap.size w w1) : Arr w1 b t xs := (hb.block b h.lt).trans h
def rot (x k : Int) : Int := Go.bits .or .u32 (shl .u32 x k) (shr .u32 x (32 - k))
/-- A place in the window of sixteen. -/
structure Mod16 (n : Nat) : Prop where
  tm : Int.tmod (n : Int) 16 = (n : Int) % 16
  lo : 0 ≤ (n : Int) % 16
  hi : (n : Int) % 16 < 16
  nt : ((n : Int) % 16).toNat = n % 16
theorem mod16 (n : Nat) : Mod16 n := ⟨rfl, by omega, by omega, by omega⟩
theorem Arr.mod {w : World} {b : Nat} {t : TypeId} {xs : List Int} (h : Arr w b t xs) (hl : xs.length = 16) (n : Nat) : w.cell? ⟨b, n % 16, none⟩ = some (.int .u32 (rd xs ((n : Int) % 16))) :=
  h.cellN (n % 16) (by omega)
theorem Arr.row {w : World} {b : Nat} {t : TypeId} {xs ys : List Int} (h : Arr w b t xs) : Arr (w.setRow b (u32s ys)) b t ys := setRow_heap w b _ _ _ _ h
theorem Arr.rowFar {w : World} {b g : Nat} {t : TypeId} {xs ys : List Int} (h : Arr w b t xs) (hne : b ≠ g) : Arr (w.setRow g (u32s ys)) b t xs := (setRow_other w g b _ hne).trans h
theorem below_row {w W : World} {B g : Nat} {cs : Array Value} (h : Below B w W) (hg : B ≤ g) : Below B w (W.setRow g cs) :=
  h.trans ⟨rfl, rfl, rfl, by rw [setRow_size]; exact Nat.le_refl _, fun k hk => setRow_other _ _ _ _ (by omega)⟩
theorem copy8 {W : World} {g : Nat} {x0 x1 x2 x3 x4 x5 x6 x7 : Int} (h : Arr W g 71 [x0, x1, x2, x3, x4, x5, x6, x7]) :
    (Builtin.copy_ #[97, 97] 3 #[.slice (some ⟨g, 1, none⟩) 7 7, .slice (some ⟨g, 0, none⟩) 7 8]).run Try.prog W = .ok (goInt 7) (W.setRow g (u32s [x0, x0, x1, x2, x3, x4, x5, x6])) := by
  have hadd : ∀ j, (⟨g, 0, none⟩ : Addr).add j = ⟨g, j, none⟩ := fun j => by unfold Addr.add; split <;> simp_all
  exact run_copy_row Try.prog W 97 97 3 70 g 1 7 7 ⟨g, 0, none⟩ 7 8 (u32s [x0, x1, x2, x3, x4, x5, x6, x7]) 71 [.int .u32 x0, .int .u32 x1, .int .u32 x2, .int .u32 x3, .int .u32 x4, .int .u32 x5, .int .u32 x6] Try.underlying97 (by kernel_rfl) h rfl (fun j v hj => by
    rw [hadd]
    have hl := (List.getElem?_eq_some_iff.mp hj).1
    have h2 := h.cellN j (by show j < 8; exact Nat.lt_succ_of_lt hl)
    rw [h2, ← hj]
    match j, hl with
    | 0, _ => rfl
    | 1, _ => rfl
    | 2, _ => rfl
    | 3, _ => rfl
    | 4, _ => rfl
    | 5, _ => rfl
    | 6, _ => rfl) (by show 8 ≤ 8; exact Nat.le_refl _) (fun v hv => by simp at hv; rcases hv with rfl | rfl | rfl | rfl | rfl | rfl | rfl <;> rfl)
structure Sum16 (i : Nat) (c : Int) : Prop where
  wr : IntKind.i64.wrap ((i : Int) + c) = (i : Int) + c
  tm : Int.tmod ((i : Int) + c) 16 = ((i : Int) + c) % 16
  lo : 0 ≤ ((i : Int) + c) % 16
  hi : ((i : Int) + c) % 16 < 16
theorem sum16 (i : Nat) (c : Int) (hi : i < 64) (h0 : 0 ≤ c) (hc : c < 16) : Sum16 i c := by
  refine ⟨?_, ?_, by omega, by omega⟩
  · have h : wrap64 ((i : Int) + c) = (i : Int) + c := by
      unfold wrap64
      omega
    exact (i64_w _).trans h
  · obtain ⟨d, rfl⟩ : ∃ d : Nat, c = d := ⟨c.toNat, by omega⟩
    rw [show (i : Int) + (d : Int) = ((i + d : Nat) : Int) by omega]
    rfl
theorem Arr.sum {w : World} {b : Nat} {t : TypeId} {xs : List Int} (h : Arr w b t xs) (hl : xs.length = 16) (i : Nat) (c : Int) (h2 : Sum16 i c) : w.cell? ⟨b, (((i : Int) + c) % 16).toNat, none⟩ = some (.int .u32 (rd xs (((i : Int) + c) % 16))) :=
  h.cell _ h2.lo (by rw [hl]; exact h2.hi)
def rots : List Int := [25, 14, 15, 13, 26, 21, 7, 30, 19, 10]
theorem rots_ok : ∀ k ∈ rots, Go.bits .and .u64 (IntKind.u64.wrap k) 31 = k ∧ IntKind.u64.wrap (32 - k) = 32 - k ∧ 0 ≤ k ∧ 0 ≤ 32 - k := by decide +kernel
theorem rotC (x k : Int) (h : k ∈ rots) : bits_RotateLeft32.f x k = some (rot x k) := by
  obtain ⟨h1, h2, h3, h4⟩ := rots_ok k h
  unfold bits_RotateLeft32.f rot
  rw [h1, h2, if_pos h3, if_pos h4]
theorem rot_calls (x k : Int) (h : k ∈ rots) (w : World) : Calls Try.prog 71 #[.int .u32 x, .int .i64 k] w fun e w' => e = .returned (.int .u32 (rot x k)) ∧ ∃ m, w' = w.drewN m :=
  (bits_RotateLeft32.calls x k _ w (rotC x k h)).mono fun e w_ ⟨h1, ⟨m, hm⟩⟩ => ⟨h1, m, hm⟩
theorem rot_quiet (x k : Int) (h : k ∈ rots) (w : World) (a b : Nat) : Calls Try.prog 71 #[.int .u32 x, .int .i64 k] (w.drewN (a + b)) fun e w'' => e = .returned (.int .u32 (rot x k)) ∧ ∃ n, w'' = w.drewN (a + n) :=
  (rot_calls x k h _).mono fun e w_ ⟨h1, m, hm⟩ => ⟨h1, b + m, by rw [hm, World.drewN_drewN, Nat.add_assoc]⟩
def sum_one (x4 x5 x6 x7 k wi : Int) : Int := ((x7 + k + wi + Go.bits .or .u32 (Go.bits .and .u32 x4 x5) (Go.bits .and .u32 (Go.bits .xor .u32 (if IntKind.u32.signed = true then -1 else IntKind.u32.max) x4) x6)) % 4294967296 + Go.bits .xor .u32 (Go.bits .xor .u32 (rot x4 26) (rot x4 21)) (rot x4 7)) % 4294967296
def sum_two (x0 x1 x2 : Int) : Int := (Go.bits .xor .u32 (Go.bits .xor .u32 (Go.bits .and .u32 x0 x1) (Go.bits .and .u32 x0 x2)) (Go.bits .and .u32 x1 x2) + Go.bits .xor .u32 (Go.bits .xor .u32 (rot x0 30) (rot x0 19)) (rot x0 10)) % 4294967296
def sum_small (a : Int) : Int := Go.bits .xor .u32 (Go.bits .xor .u32 (rot a 25) (rot a 14)) (a / 8)
def sum_great (a : Int) : Int := Go.bits .xor .u32 (Go.bits .xor .u32 (rot a 15) (rot a 13)) (a / 1024)
/-- The window's next word. -/
def sum_new (W : List Int) (i : Nat) : Int := (rd W ((i : Int) % 16) + ((sum_small (rd W (((i : Int) + 1) % 16)) + rd W (((i : Int) + 9) % 16)) % 4294967296 + sum_great (rd W (((i : Int) + 14) % 16))) % 4294967296) % 4294967296
set_option maxHeartbeats 2000000 in
set_option maxRecDepth 100000 in
theorem sum_salts.calls (w : World) : Calls Try.prog 70 #[] w fun e w' => e = .returned (.agg (u32s sum_saltsV)) ∧ Below w.heap.size w w' := by
  go_enter Try.func70, Try.ntmps70
  refine wp_seq_k (fun K0 hK0 => ?_)
  apply wp_region_lit
  refine Go.Great.wpList_allocTo rfl (some 0) rfl (.pointer (some ⟨w.heap.size, 0, none⟩)) (.cells (u32s (List.replicate 64 0)) 72) (by kernel_rfl) ?_
  refine wpList_nil ?_
  refine hK0 _ _ ?_
  refine wp_seq_k (fun K1 hK1 => ?_)
  apply wp_region_lit
  refine wpList_build rfl 72 _ rfl (by kernel_rfl) ?_
  refine wpList_store_row rfl 72 (.tmp 0) (.tmp 1) rfl w.heap.size (u32s sum_saltsV) rfl (by kernel_rfl) 72 _ (heap_alloc_new w _) (by kernel_rfl) rfl (by kernel_rfl) ?_
  refine wpList_nil ?_
  refine hK1 _ _ ?_
  refine wp_ret ?_
  have hg := setRow_heap (w.alloc (.cells (u32s (List.replicate 64 0)) 72)) w.heap.size _ (u32s sum_saltsV) 72 (0, 0) (heap_alloc_new w _)
  refine bodyPost_ret (v := .agg (u32s sum_saltsV)) (results_cell_row rfl _ _ w.heap.size 72 (u32s sum_saltsV) (0, 0) _ rfl hg Try.underlying72 rfl (by kernel_rfl)) rfl ⟨rfl, ?_⟩
  exact Below.trans (below_alloc (Below.refl _ _) _) ⟨rfl, rfl, rfl, by rw [setRow_size]; exact Nat.le_refl _, fun k hk => setRow_other _ _ _ _ (by omega)⟩
theorem sum_index (w : World) (i : Nat) (hi : i < 64) : Sem.run Try.prog (Instr.index 72 (.agg (u32s sum_saltsV)) (.int .i64 (i : Int))) w = .ok (.int .u32 (rd sum_saltsV (i : Int))) w := by
  have hk := u32s_get sum_saltsV i hi
  have h0 : (0 : Int) ≤ (i : Int) := Int.natCast_nonneg i
  have h1 : (i : Int) < 64 := by omega
  have hu := Try.underlying72
  unfold Instr.index
  go_simp
def sum_take (p : List Int) : Nat → List Int
  | 0 => List.replicate 16 0
  | i + 1 => (sum_take p i).set (i / 4) (Go.bits .or .u32 (rd (sum_take p i) ((i : Int) / 4) * 256 % 4294967296) (rd p (i : Int) % 4294967296))
theorem sum_take_length (p : List Int) : ∀ i, (sum_take p i).length = 16
  | 0 => rfl
  | i + 1 => by rw [sum_take, List.length_set, sum_take_length p i]
def sum_mix (W : List Int) (i : Nat) : List Int := if 16 ≤ i then W.set (i % 16) (sum_new W i) else W
def sum_step (x : List Int) (k w : Int) : List Int := match x with
  | [x0, x1, x2, x3, x4, x5, x6, x7] => [(sum_one x4 x5 x6 x7 k w + sum_two x0 x1 x2) % 4294967296, x0, x1, x2, (x3 + sum_one x4 x5 x6 x7 k w) % 4294967296, x4, x5, x6]
  | _ => x
/-- The words and the window behind so many rounds. -/
def sum_rounds (v W : List Int) : Nat → List Int × List Int
  | 0 => (v, W)
  | i + 1 => (sum_step (sum_rounds v W i).1 (rd sum_saltsV (i : Int)) (rd (sum_mix (sum_rounds v W i).2 i) ((i : Int) % 16)), sum_mix (sum_rounds v W i).2 i)
theorem eight {v : List Int} (h : v.length = 8) : ∃ a b c d e f g h, v = [a, b, c, d, e, f, g, h] := by
  match v, h with
  | [a, b, c, d, e, f, g, h], _ => exact ⟨a, b, c, d, e, f, g, h, rfl⟩
theorem sum_rounds_length (v W : List Int) (hv : v.length = 8) (hW : W.length = 16) : ∀ i, (sum_rounds v W i).1.length = 8 ∧ (sum_rounds v W i).2.length = 16
  | 0 => ⟨hv, hW⟩
  | i + 1 => by
    obtain ⟨h1, h2⟩ := sum_rounds_length v W hv hW i
    constructor
    · rw [sum_rounds]
      obtain ⟨a, b, c, d, e, f, g, h, hx⟩ := eight h1
      rw [hx]
      rfl
    · rw [sum_rounds]
      unfold sum_mix
      split
      · rw [List.length_set]; exact h2
      · exact h2
/-- The block's words, with the first so many of the rounds' own added. -/
def sum_add (v x : List Int) : Nat → List Int
  | 0 => v
  | i + 1 => (sum_add v x i).set i ((rd (sum_add v x i) (i : Int) + rd x (i : Int)) % 4294967296)
theorem sum_add_length (v x : List Int) (n : Nat) (hv : v.length = n) : ∀ i, (sum_add v x i).length = n
  | 0 => hv
  | i + 1 => by rw [sum_add, List.length_set, sum_add_length v x n hv i]
def sum_block (v p : List Int) : List Int := sum_add v (sum_rounds v (sum_take p 64) 64).1 8
theorem sum_block_length (v p : List Int) (hv : v.length = 8) : (sum_block v p).length = 8 := sum_add_length _ _ 8 hv 8
set_option maxHeartbeats 4000000 in
set_option maxRecDepth 100000 in
theorem sum_stir.calls (v p : List Int) (A : Option Addr) (c : Nat) (w : World) (hv : v.length = 8) (hp : 64 ≤ p.length) (hr : Kd.C (Kd.int .u8) w A p.length p) (hc : p.length ≤ c) :
    Calls Try.prog 59 #[.agg (u32s v), .slice A p.length c] w fun e w' => e = .returned (.agg (u32s (sum_block v p))) ∧ Below w.heap.size w w' := by
  have HV := Aside0.mk hv
  have HP := Aside0.mk hp
  have HR := Aside0.mk (Kd.C_F (Kd.heap_int .u8) hr)
  have HC := Aside0.mk hc
  have hv2 := hv
  obtain ⟨v0, v1, v2, v3, v4, v5, v6, v7, rfl⟩ : ∃ a b c d e f g h, v = [a, b, c, d, e, f, g, h] := by
    match v, hv2 with
    | [a, b, c, d, e, f, g, h], _ => exact ⟨a, b, c, d, e, f, g, h, rfl⟩
  clear hv2
  go_enter Try.func59, Try.ntmps59
  go_wp2
  clear hv hp hr hc
  go_loopw [23] (fun v23 wr => ∃ (i : Nat), v23 = .int .i64 i ∧ i ≤ 64 ∧ Aside0 (Arr wr w.heap.size 71 [v0, v1, v2, v3, v4, v5, v6, v7]) ∧ Aside0 (Arr wr (w.heap.size + 1) 71 (List.replicate 8 0)) ∧ Aside0 (Arr wr (w.heap.size + 1 + 1) 96 (sum_take p i)) ∧ Aside0 (Below w.heap.size w wr)) (fun v23 _ => 64 - (intOf v23).toNat)
  case atStart =>
    refine ⟨0, rfl, by omega, ⟨?_⟩, ⟨?_⟩, ⟨?_⟩, ⟨?_⟩⟩
    · exact ((Arr.new w 71 [v0, v1, v2, v3, v4, v5, v6, v7]).alloc _).alloc _
    · exact (Arr.newAt _ 71 (List.replicate 8 0) (sz_alloc _ _) _ rfl).alloc _
    · exact Arr.newAt _ 96 (List.replicate 16 0) (by rw [sz_alloc, sz_alloc]) _ rfl
    · exact below_alloc (below_alloc (below_alloc (Below.refl _ _) _) _) _
  case round =>
    obtain ⟨i, rfl, hi, H2, H4, H5, HB⟩ := hrel
    by_cases hlt : i < 64
    · have hlt' : ((i : Nat) : Int) < 64 := by omega
      have c24 : decide ((i : Int) < 64) = true := decide_eq_true hlt'
      obtain ⟨ad, e, hx⟩ := Kd.at_int (Kd.F_now (Kd.F_below HR.out HB.out)) (i : Int) (by omega) (by have := HP.out; omega)
      cases e
      rw [Int.toNat_natCast] at hx
      have hw := H5.out.cellN (i / 4) (by rw [sum_take_length]; omega)
      have hf := H5.out.frozen (i / 4)
      go_wp2
      go_roundw
      case rel =>
        refine ⟨i + 1, rfl, by omega, ⟨H2.out.far _ _ (by show _ ≠ w.heap.size + 1 + 1; omega)⟩, ⟨H4.out.far _ _ (by show _ ≠ w.heap.size + 1 + 1; omega)⟩, ⟨H5.out.set (i / 4) (by rw [sum_take_length]; omega) _⟩, ⟨below_set HB.out (by omega)⟩⟩
      case measure =>
        simp [intOf]
        omega
    · obtain rfl : i = 64 := by omega
      have hl0 := sum_take_length p 64
      generalize hW0 : sum_take p 64 = W0 at *
      have x0 : wr.cell? ⟨w.heap.size, 0, none⟩ = some (.int .u32 v0) := H2.out.cellN 0 (by show 0 < 8; omega)
      have x1 : wr.cell? ⟨w.heap.size, 1, none⟩ = some (.int .u32 v1) := H2.out.cellN 1 (by show 1 < 8; omega)
      have x2 : wr.cell? ⟨w.heap.size, 2, none⟩ = some (.int .u32 v2) := H2.out.cellN 2 (by show 2 < 8; omega)
      have x3 : wr.cell? ⟨w.heap.size, 3, none⟩ = some (.int .u32 v3) := H2.out.cellN 3 (by show 3 < 8; omega)
      have x4 : wr.cell? ⟨w.heap.size, 4, none⟩ = some (.int .u32 v4) := H2.out.cellN 4 (by show 4 < 8; omega)
      have x5 : wr.cell? ⟨w.heap.size, 5, none⟩ = some (.int .u32 v5) := H2.out.cellN 5 (by show 5 < 8; omega)
      have x6 : wr.cell? ⟨w.heap.size, 6, none⟩ = some (.int .u32 v6) := H2.out.cellN 6 (by show 6 < 8; omega)
      have x7 : wr.cell? ⟨w.heap.size, 7, none⟩ = some (.int .u32 v7) := H2.out.cellN 7 (by show 7 < 8; omega)
      go_wp2_with (go_at_call 70; refine (sum_salts.calls _).mono ?_; rintro e w1 ⟨rfl, hb1⟩)
      have hgs : w.heap.size + 1 + 1 < wr.heap.size := H5.out.lt
      have Gx := Aside0.mk ((Arr.newAt wr 71 [v0, v1, v2, v3, v4, v5, v6, v7] rfl _ rfl).below hb1)
      have G2 := Aside0.mk ((H2.out.alloc _).below hb1)
      have G4 := Aside0.mk ((H4.out.alloc _).below hb1)
      have G5 := Aside0.mk ((H5.out.alloc _).below hb1)
      have GB := Aside0.mk ((below_alloc HB.out _).trans (hb1.mono (below_size (below_alloc HB.out _))))
      clear hb1 H2 H4 H5 HB x0 x1 x2 x3 x4 x5 x6 x7 hlt hi
      generalize wr.heap.size = g at *
      go_loopw [42] (fun v42 wr => ∃ (i : Nat), v42 = .int .i64 i ∧ i ≤ 64 ∧ Aside0 (Arr wr w.heap.size 71 [v0, v1, v2, v3, v4, v5, v6, v7]) ∧ Aside0 (Arr wr (w.heap.size + 1) 71 (List.replicate 8 0)) ∧ Aside0 (Arr wr (w.heap.size + 1 + 1) 96 (sum_rounds [v0, v1, v2, v3, v4, v5, v6, v7] W0 i).2) ∧ Aside0 (Arr wr g 71 (sum_rounds [v0, v1, v2, v3, v4, v5, v6, v7] W0 i).1) ∧ Aside0 (Below w.heap.size w wr)) (fun v42 _ => 64 - (intOf v42).toNat)
      case atStart => exact ⟨0, rfl, by omega, G2, G4, G5, Gx, GB⟩
      case round =>
        clear G2 G4 G5 Gx GB
        obtain ⟨i, rfl, hi, H2, H4, H5, Hx, HB⟩ := hrel
        by_cases hlt : i < 64
        · obtain ⟨l1, l2⟩ := sum_rounds_length [v0, v1, v2, v3, v4, v5, v6, v7] W0 rfl hl0 i
          generalize hW : (sum_rounds [v0, v1, v2, v3, v4, v5, v6, v7] W0 i).2 = W at *
          generalize hX : (sum_rounds [v0, v1, v2, v3, v4, v5, v6, v7] W0 i).1 = X at *
          obtain ⟨x0, x1, x2, x3, x4, x5, x6, x7, rfl⟩ := eight l1
          have hlt' : ((i : Nat) : Int) < 64 := by omega
          have c43 : decide ((i : Int) < 64) = true := decide_eq_true hlt'
          have hi0 : (0 : Int) ≤ (i : Int) := Int.natCast_nonneg i
          have hidx := sum_index wr i hlt
          go_upto_if 47 with (fail)
          go_cut [9] from 43 to 158 (fun v9 wc => v9 = .int .i64 i ∧ Aside0 (Arr wc w.heap.size 71 [v0, v1, v2, v3, v4, v5, v6, v7]) ∧ Aside0 (Arr wc (w.heap.size + 1) 71 (List.replicate 8 0)) ∧ Aside0 (Arr wc (w.heap.size + 1 + 1) 96 (sum_mix W i)) ∧ Aside0 (Arr wc g 71 [x0, x1, x2, x3, x4, x5, x6, x7]) ∧ Aside0 (Below w.heap.size w wc))
          case first J0 K0 hJ0 hK0 =>
            by_cases h16 : 16 ≤ i
            · have c47 : decide (16 ≤ (i : Int)) = true := decide_eq_true (by omega)
              obtain ⟨m1, m2, m3, m4⟩ := mod16 i
              have s1 := sum16 i 1 hlt (by decide) (by decide)
              have s9 := sum16 i 9 hlt (by decide) (by decide)
              have s14 := sum16 i 14 hlt (by decide) (by decide)
              have z0 := H5.out.mod l2 i
              have z1 := H5.out.sum l2 i 1 s1
              have z9 := H5.out.sum l2 i 9 s9
              have z14 := H5.out.sum l2 i 14 s14
              obtain ⟨n1, n2, n3, n4⟩ := s1
              obtain ⟨o1, o2, o3, o4⟩ := s9
              obtain ⟨p1, p2, p3, p4⟩ := s14
              have hfz := H5.out.frozen (i % 16)
              have HL2 := Aside0.mk l2
              clear hi hlt l2 l1
              rw [c47]
              go_wp2_with fail
              go_quiet (fail)
              go_step
              go_step
              go_step
              go_cut [13] (fun v13 wc => ∃ nd, v13 = .int .u32 (sum_small (rd W (((i : Int) + 1) % 16))) ∧ wc = wr.drewN nd)
              case first J1 K1 hJ1 hK1 =>
                go_wp2_with (go_at_call 71; refine (rot_calls _ _ (by decide) _).mono ?_; rintro e w1 ⟨rfl, m, rfl⟩)
                go_meet
                case rel => exact ⟨_, rfl, rfl⟩
              case rest =>
                obtain ⟨nd, rfl, rfl⟩ := hcut
                generalize hsm : sum_small (rd W (((i : Int) + 1) % 16)) = sm at *
                go_step
                go_step
                go_cut [14] (fun v14 wc => ∃ nd, v14 = .int .u32 (sum_great (rd W (((i : Int) + 14) % 16))) ∧ wc = wr.drewN nd)
                case first J2 K2 hJ2 hK2 =>
                  go_wp2_with (go_at_call 71; refine (rot_calls _ _ (by decide) _).mono ?_; rintro e w1 ⟨rfl, m, rfl⟩)
                  go_meet
                  case rel => exact ⟨_, rfl, rfl⟩
                case rest =>
                  obtain ⟨nd2, rfl, rfl⟩ := hcut
                  generalize hgr : sum_great (rd W (((i : Int) + 14) % 16)) = gr at *
                  go_step
                  refine wp_region_still_tail 15 (by kernel_rfl) (by kernel_rfl) ?_
                  simp only [List.take_succ_cons, List.take_zero, List.drop_succ_cons, List.drop_zero]
                  change wpStill _ _ (wr.drewN nd2).drew (fun a' => wpList _ _ _ _ a' (wr.drewN nd2).drew) _ _
                  have q0 : (wr.drewN nd2).drew.cell? _ = _ := z0
                  have q9 : (wr.drewN nd2).drew.cell? _ = _ := z9
                  have qf : (wr.drewN nd2).drew.frozen? _ = _ := hfz
                  have Y2 := Aside0.mk (show Arr (wr.drewN nd2).drew _ _ _ from H2.out)
                  have Y4 := Aside0.mk (show Arr (wr.drewN nd2).drew _ _ _ from H4.out)
                  have Y5 := Aside0.mk (show Arr (wr.drewN nd2).drew _ _ _ from H5.out)
                  have Yx := Aside0.mk (show Arr (wr.drewN nd2).drew _ _ _ from Hx.out)
                  have YB := Aside0.mk (show Below w.heap.size w (wr.drewN nd2).drew from pw_below_drewN HB.out (nd2 + 1))
                  generalize (wr.drewN nd2).drew = wd at *
                  repeat still_step
                  refine wpStill_nil ?_
                  go_wp2_with fail
                  go_meet
                  case rel =>
                    have e5 : sum_mix W i = W.set (i % 16) ((rd W ((i : Int) % 16) + ((sm + rd W (((i : Int) + 9) % 16)) % 4294967296 + gr) % 4294967296) % 4294967296) := by
                      unfold sum_mix
                      rw [if_pos h16, sum_new, hsm, hgr]
                    refine ⟨rfl, ⟨Y2.out.far _ _ (by show _ ≠ w.heap.size + 1 + 1; omega)⟩, ⟨Y4.out.far _ _ (by show _ ≠ w.heap.size + 1 + 1; omega)⟩, ⟨?_⟩, ⟨Yx.out.far _ _ (by show _ ≠ w.heap.size + 1 + 1; omega)⟩, ⟨below_set YB.out (by omega)⟩⟩
                    rw [e5]
                    exact Y5.out.set (i % 16) (by rw [HL2.out]; omega) _
            · have c47 : decide (16 ≤ (i : Int)) = false := decide_eq_false (by omega)
              rw [c47]
              go_wp2_with fail
              go_meet
              case rel =>
                have e0 : sum_mix W i = W := by unfold sum_mix; rw [if_neg h16]
                rw [e0]
                exact ⟨rfl, H2, H4, H5, Hx, HB⟩
          case rest =>
            clear H2 H4 H5 Hx HB hidx
            obtain ⟨rfl, H2, H4, H5, Hx, HB⟩ := hcut
            have l3 : (sum_mix W i).length = 16 := by
              unfold sum_mix
              split
              · rw [List.length_set]; exact l2
              · exact l2
            clear l2
            have hWo := hW
            clear hW
            generalize hW : sum_mix W i = Wn at *
            obtain ⟨wr, hwr⟩ : ∃ x, x = wc := ⟨_, rfl⟩
            subst hwr
            have y0 : wr.cell? ⟨g, 0, none⟩ = some (.int .u32 x0) := Hx.out.cellN 0 (by show 0 < 8; omega)
            have y1 : wr.cell? ⟨g, 1, none⟩ = some (.int .u32 x1) := Hx.out.cellN 1 (by show 1 < 8; omega)
            have y2 : wr.cell? ⟨g, 2, none⟩ = some (.int .u32 x2) := Hx.out.cellN 2 (by show 2 < 8; omega)
            have y3 : wr.cell? ⟨g, 3, none⟩ = some (.int .u32 x3) := Hx.out.cellN 3 (by show 3 < 8; omega)
            have y4 : wr.cell? ⟨g, 4, none⟩ = some (.int .u32 x4) := Hx.out.cellN 4 (by show 4 < 8; omega)
            have y5 : wr.cell? ⟨g, 5, none⟩ = some (.int .u32 x5) := Hx.out.cellN 5 (by show 5 < 8; omega)
            have y6 : wr.cell? ⟨g, 6, none⟩ = some (.int .u32 x6) := Hx.out.cellN 6 (by show 6 < 8; omega)
            have y7 : wr.cell? ⟨g, 7, none⟩ = some (.int .u32 x7) := Hx.out.cellN 7 (by show 7 < 8; omega)
            go_step
            go_step
            go_quiet (fail)
            go_wp2_with fail
            obtain ⟨m1, m2, m3, m4⟩ := mod16 i
            have z1 := H5.out.mod l3 i
            go_cut [17] (fun v17 wc => ∃ nd, v17 = .int .u32 (sum_one x4 x5 x6 x7 (rd sum_saltsV (i : Int)) (rd Wn ((i : Int) % 16))) ∧ wc = wr.drewN nd)
            case first J1 K1 hJ1 hK1 =>
              go_quiet ((go_at_call 71; refine rot_quiet _ _ ?_ _ _ _; decide))
              refine hK1 _ _ ?_
              go_meet
              case rel => exact ⟨_, rfl, World.drewN_drewN _ _ _⟩
            case rest =>
              obtain ⟨nd, rfl, rfl⟩ := hcut
              generalize hone : sum_one x4 x5 x6 x7 (rd sum_saltsV (i : Int)) (rd Wn ((i : Int) % 16)) = one at *
              go_wp2_with fail
              go_cut [18] (fun v18 wc => ∃ nd2, v18 = .int .u32 (sum_two x0 x1 x2) ∧ wc = wr.drewN nd2)
              case first J2 K2 hJ2 hK2 =>
                go_quiet ((go_at_call 71; refine rot_quiet _ _ ?_ _ _ _; decide))
                refine hK2 _ _ ?_
                go_meet
                case rel => exact ⟨_, rfl, World.drewN_drewN _ _ _⟩
              case rest =>
                obtain ⟨nd2, rfl, rfl⟩ := hcut
                generalize htwo : sum_two x0 x1 x2 = two at *
                go_wp2_with fail
                have hcp := copy8 (W := (wr.drewN nd2).drew) (Hx.out)
                have hcp2 := copy8 (W := wr.drewN (nd2 + 1)) (Hx.out)
                go_cut [18] (fun v18 wc => ∃ nd3, v18 = .int .u32 two ∧ wc = (wr.drewN nd3).setRow g (u32s [x0, x0, x1, x2, x3, x4, x5, x6]))
                case first J3 K3 hJ3 hK3 =>
                  go_still_tail 2, (by kernel_rfl)
                  change wpList _ _ _ _ _ (wr.drewN nd2).drew
                  go_wp2_with fail
                  go_meet
                  case rel => exact ⟨nd2 + 1, rfl, rfl⟩
                case rest =>
                  obtain ⟨nd3, rfl, hwc⟩ := hcut
                  have hx1 : Arr wc g 71 [x0, x0, x1, x2, x3, x4, x5, x6] := by rw [hwc]; exact (Hx.out.drewN nd3).row
                  have X2 := Aside0.mk (show Arr wc w.heap.size 71 [v0, v1, v2, v3, v4, v5, v6, v7] by rw [hwc]; exact (H2.out.drewN nd3).rowFar (by omega))
                  have X4 := Aside0.mk (show Arr wc (w.heap.size + 1) 71 (List.replicate 8 0) by rw [hwc]; exact (H4.out.drewN nd3).rowFar (by omega))
                  have X5 := Aside0.mk (show Arr wc (w.heap.size + 1 + 1) 96 Wn by rw [hwc]; exact (H5.out.drewN nd3).rowFar (by omega))
                  have XB := Aside0.mk (show Below w.heap.size w wc by rw [hwc]; exact below_row (pw_below_drewN HB.out nd3) (by omega))
                  have hc4 : wc.cell? ⟨g, 4, none⟩ = some (.int .u32 x3) := hx1.cellN 4 (by show 4 < 8; omega)
                  have hc0 : wc.cell? ⟨g, 0, none⟩ = some (.int .u32 x0) := hx1.cellN 0 (by show 0 < 8; omega)
                  have hf4 := hx1.frozen 4
                  have hf0 := hx1.frozen 0
                  have XX := Aside0.mk hx1
                  clear hx1 hwc y0 y1 y2 y3 y4 y5 y6 y7 z1 hcp hcp2 H2 H4 H5 Hx HB
                  go_wp2_with fail
                  go_roundw
                  case rel =>
                    have e1 : (sum_rounds [v0, v1, v2, v3, v4, v5, v6, v7] W0 (i + 1)).2 = Wn := by
                      rw [sum_rounds, hWo, hW]
                    have e2 : (sum_rounds [v0, v1, v2, v3, v4, v5, v6, v7] W0 (i + 1)).1 = [(one + two) % 4294967296, x0, x1, x2, (x3 + one) % 4294967296, x4, x5, x6] := by
                      rw [sum_rounds, hWo, hW, hX, ← hone, ← htwo]
                      rfl
                    refine ⟨i + 1, rfl, by omega, ⟨(X2.out.far _ _ (by show _ ≠ g; omega)).far _ _ (by show _ ≠ g; omega)⟩, ⟨(X4.out.far _ _ (by show _ ≠ g; omega)).far _ _ (by show _ ≠ g; omega)⟩, ⟨?_⟩, ⟨?_⟩, ⟨below_set (below_set XB.out (by omega)) (by omega)⟩⟩
                    · rw [e1]
                      exact (X5.out.far _ _ (by show _ ≠ g; omega)).far _ _ (by show _ ≠ g; omega)
                    · rw [e2]
                      exact (XX.out.set 4 (by show 4 < 8; omega) _).set 0 (by show 0 < 8; omega) _
                  case measure =>
                    simp [intOf]
                    omega
        · obtain rfl : i = 64 := by omega
          obtain ⟨l1, l2⟩ := sum_rounds_length [v0, v1, v2, v3, v4, v5, v6, v7] W0 rfl hl0 64
          have hB : sum_block [v0, v1, v2, v3, v4, v5, v6, v7] p = sum_add [v0, v1, v2, v3, v4, v5, v6, v7] (sum_rounds [v0, v1, v2, v3, v4, v5, v6, v7] W0 64).1 8 := by rw [sum_block, hW0]
          replace hB := Aside0.mk hB
          generalize (sum_rounds [v0, v1, v2, v3, v4, v5, v6, v7] W0 64).2 = W at *
          generalize (sum_rounds [v0, v1, v2, v3, v4, v5, v6, v7] W0 64).1 = X at *
          have HX := Aside0.mk l1
          clear l1 l2 hlt hi
          go_wp2_with fail
          simp only [Int.cast_ofNat_Int]
          go_loopw [159] (fun v159 wr => ∃ (i : Nat), v159 = .int .i64 i ∧ i ≤ 8 ∧ Aside0 (Arr wr w.heap.size 71 (sum_add [v0, v1, v2, v3, v4, v5, v6, v7] X i)) ∧ Aside0 (Arr wr (w.heap.size + 1) 71 (List.replicate 8 0)) ∧ Aside0 (Arr wr g 71 X) ∧ Aside0 (Below w.heap.size w wr)) (fun v159 _ => 8 - (intOf v159).toNat)
          case atStart => exact ⟨0, rfl, by omega, H2, H4, Hx, HB⟩
          case round =>
            clear H2 H4 H5 Hx HB
            obtain ⟨i, rfl, hi, H2, H4, Hx, HB⟩ := hrel
            by_cases hlt : i < 8
            · have hlt' : ((i : Nat) : Int) < 8 := by omega
              have c160 : decide ((i : Int) < 8) = true := decide_eq_true hlt'
              have hi0 : (0 : Int) ≤ (i : Int) := Int.natCast_nonneg i
              have y1 := H2.out.cellN i (by rw [sum_add_length _ _ 8 rfl]; exact hlt)
              have y2 := Hx.out.cellN i (by rw [HX.out]; exact hlt)
              have y3 := H2.out.frozen i
              go_wp2_with fail
              refine wp_region_still_tail 8 (by kernel_rfl) (by kernel_rfl) ?_
              simp only [List.take_succ_cons, List.take_zero, List.drop_succ_cons, List.drop_zero]
              change wpStill _ _ wr.drew (fun a' => wpList _ _ _ _ a' wr.drew) _ _
              replace y1 : wr.drew.cell? _ = _ := y1
              replace y2 : wr.drew.cell? _ = _ := y2
              replace y3 : wr.drew.frozen? _ = _ := y3
              have Y2 := Aside0.mk (show Arr wr.drew _ _ _ from H2.out)
              have Y4 := Aside0.mk (show Arr wr.drew _ _ _ from H4.out)
              have Yx := Aside0.mk (show Arr wr.drew _ _ _ from Hx.out)
              have YB := Aside0.mk (show Below w.heap.size w wr.drew from pw_below_drewN HB.out 1)
              clear H2 H4 Hx HB
              generalize wr.drew = wd at *
              repeat still_step
              refine wpStill_nil ?_
              go_wp2_with fail
              go_roundw
              case rel =>
                refine ⟨i + 1, rfl, by omega, ⟨Y2.out.set i (by rw [sum_add_length _ _ 8 rfl]; exact hlt) _⟩, ⟨Y4.out.far _ _ (by show _ ≠ w.heap.size; omega)⟩, ⟨Yx.out.far _ _ (by show _ ≠ w.heap.size; omega)⟩, ⟨below_set YB.out (by omega)⟩⟩
              case measure =>
                simp [intOf]
                omega
            · obtain rfl : i = 8 := by omega
              have hs8 := sum_add_length [v0, v1, v2, v3, v4, v5, v6, v7] X 8 rfl 8
              have hB2 : Aside0 (sum_block [v0, v1, v2, v3, v4, v5, v6, v7] p = sum_add [v0, v1, v2, v3, v4, v5, v6, v7] X 8) := hB
              generalize sum_add [v0, v1, v2, v3, v4, v5, v6, v7] X 8 = S at *
              obtain ⟨s0, s1, s2, s3, s4, s5, s6, s7, rfl⟩ := eight hs8
              go_upto_region 28 with (fail)
              apply wp_region_lit
              refine wpList_load_row rfl 71 (.tmp 2) rfl w.heap.size rfl 71 (u32s [s0, s1, s2, s3, s4, s5, s6, s7]) (0, 0) _ H2.out Try.underlying71 rfl (by kernel_rfl) ?_
              refine wpList_store_row rfl 71 (.tmp 4) (.tmp 171) rfl (w.heap.size + 1) (u32s [s0, s1, s2, s3, s4, s5, s6, s7]) rfl rfl 71 _ H4.out (by kernel_rfl) rfl (by kernel_rfl) ?_
              refine wpList_nil ?_
              go_step
              go_step
              refine wp_ret ?_
              refine bodyPost_ret (v := .agg (u32s [s0, s1, s2, s3, s4, s5, s6, s7])) (results_cell_row rfl _ _ (w.heap.size + 1) 71 (u32s [s0, s1, s2, s3, s4, s5, s6, s7]) (0, 0) _ rfl H4.out.row Try.underlying71 rfl (by kernel_rfl)) rfl ⟨by rw [hB2.out], ?_⟩
              exact below_row HB.out (by omega)
/-- The state's ten cells. -/
def stC (v : List Int) (s : Value) (n : Int) : Array Value := u32s v ++ #[s, .int .u64 n]
def Stt (w : World) (b : Nat) (v : List Int) (s : Value) (n : Int) : Prop := w.heap[b]? = some (.cells (stC v s n) 90 (0, 0))
set_option maxRecDepth 100000 in
theorem sum_New.calls (w : World) : Calls Try.prog 44 #[] w fun e w' => ∃ b, e = .returned (.pointer (some ⟨b, 0, none⟩)) ∧ w.heap.size ≤ b ∧ Stt w' b sum_beginV (.slice none 0 0) 0 ∧ Below w.heap.size w w' := by
  go_enter Try.func44, Try.ntmps44
  go_wp2_with (go_at_call 58; refine (sum_begin.calls _).mono ?_; rintro e w1 ⟨rfl, hb⟩)
  go_ret
  refine ⟨w1.heap.size, rfl, hb.size, ?_, below_alloc hb _⟩
  exact heap_alloc_new w1 _
theorem own_F {W : World} {base e n c : Nat} {A : Option Addr} {k : IntKind} {xs : List Int} (h : W.ownsRow base e 1 (.slice A n c) n (nums k xs)) (hn : xs.length = n) (ok : Nat → Prop) (hok : ∀ j, Value.ownBlock (.slice A n c) = some j → ok j) : Kd.F (Kd.int k) W ok A n xs := fun W' hW => by
  have h2 : W'.ownsRow base e 1 (.slice A n c) n (nums k xs) := by
    refine ⟨h.1, ?_⟩
    rcases h.2 with hv | ⟨g, cap, cur, hv, hbg, hg, h5⟩
    · exact .inl hv
    · refine .inr ⟨g, cap, cur, hv, hbg, ?_, h5⟩
      rw [hW g (hok g (by rw [hv]; rfl)) (Array.getElem?_eq_some_iff.mp hg).1]
      exact hg
  obtain ⟨A', c', he, hC⟩ := own_reads h2
  cases he
  subst hn
  exact Kd.C_of_reads hC
/-- The state's words behind so many of its blocks. -/
def sum_blocks (v l : List Int) : Nat → List Int
  | 0 => v
  | k + 1 => sum_block (sum_blocks v l k) (l.drop (64 * k))
theorem sum_blocks_length (v l : List Int) (hv : v.length = 8) : ∀ k, (sum_blocks v l k).length = 8
  | 0 => hv
  | k + 1 => sum_block_length _ _ (sum_blocks_length v l hv k)
theorem below_setB {B : Nat} {w W : World} (h : Below B w W) {p : Addr} (hp : B ≤ p.block) (v : Value) : Below B w (W.setCell p v) :=
  ⟨h.os, h.tape, h.output, by simpa using h.size, fun k hk => (Below.heap_setCell W p v k (by omega)).trans (h.block k hk)⟩
theorem Stt.word {w : World} {b : Nat} {v : List Int} {s : Value} {n : Int} (h : Stt w b v s n) (i : Nat) (hi : i < v.length) (r : Int) : Stt (w.setCell ⟨b, i, none⟩ (.int .u32 r)) b (v.set i r) s n := by
  have e : (stC v s n).setIfInBounds i (.int .u32 r) = stC (v.set i r) s n := by
    unfold stC u32s
    rw [Array.setIfInBounds_append_left (by simpa using hi), List.setIfInBounds_toArray, List.map_set]
  have h2 := blk_set h i (.int .u32 r)
  rw [e] at h2
  exact h2
theorem Stt.words {w : World} {b : Nat} {v0 v1 v2 v3 v4 v5 v6 v7 : Int} {s : Value} {n : Int} (h : Stt w b [v0, v1, v2, v3, v4, v5, v6, v7] s n) (r0 r1 r2 r3 r4 r5 r6 r7 : Int) : Stt ((((((((w.setCell ⟨b, 0, none⟩ (.int .u32 r0)).setCell ⟨b, 1, none⟩ (.int .u32 r1)).setCell ⟨b, 2, none⟩ (.int .u32 r2)).setCell ⟨b, 3, none⟩ (.int .u32 r3)).setCell ⟨b, 4, none⟩ (.int .u32 r4)).setCell ⟨b, 5, none⟩ (.int .u32 r5)).setCell ⟨b, 6, none⟩ (.int .u32 r6)).setCell ⟨b, 7, none⟩ (.int .u32 r7)) b [r0, r1, r2, r3, r4, r5, r6, r7] s n := (Stt.word (Stt.word (Stt.word (Stt.word (Stt.word (Stt.word (Stt.word (Stt.word h 0 (by show 0 < 8; decide) r0) 1 (by show 1 < 8; decide) r1) 2 (by show 2 < 8; decide) r2) 3 (by show 3 < 8; decide) r3) 4 (by show 4 < 8; decide) r4) 5 (by show 5 < 8; decide) r5) 6 (by show 6 < 8; decide) r6) 7 (by show 7 < 8; decide) r7)
theorem F_words {w : World} {b : Nat} {A : Option Addr} {p : List Int} (h : Kd.F (Kd.int .u8) w (fun j => j ≠ b) A p.length p) (r0 r1 r2 r3 r4 r5 r6 r7 : Int) : Kd.F (Kd.int .u8) ((((((((w.setCell ⟨b, 0, none⟩ (.int .u32 r0)).setCell ⟨b, 1, none⟩ (.int .u32 r1)).setCell ⟨b, 2, none⟩ (.int .u32 r2)).setCell ⟨b, 3, none⟩ (.int .u32 r3)).setCell ⟨b, 4, none⟩ (.int .u32 r4)).setCell ⟨b, 5, none⟩ (.int .u32 r5)).setCell ⟨b, 6, none⟩ (.int .u32 r6)).setCell ⟨b, 7, none⟩ (.int .u32 r7)) (fun j => j ≠ b) A p.length p := (Kd.F_far (Kd.F_far (Kd.F_far (Kd.F_far (Kd.F_far (Kd.F_far (Kd.F_far (Kd.F_far h (fun k hk => hk) _) (fun k hk => hk) _) (fun k hk => hk) _) (fun k hk => hk) _) (fun k hk => hk) _) (fun k hk => hk) _) (fun k hk => hk) _) (fun k hk => hk) _)
theorem below_words {w0 w : World} {B b : Nat} (h : Below B w0 w) (hb : B ≤ b) (r0 r1 r2 r3 r4 r5 r6 r7 : Int) : Below B w0 ((((((((w.setCell ⟨b, 0, none⟩ (.int .u32 r0)).setCell ⟨b, 1, none⟩ (.int .u32 r1)).setCell ⟨b, 2, none⟩ (.int .u32 r2)).setCell ⟨b, 3, none⟩ (.int .u32 r3)).setCell ⟨b, 4, none⟩ (.int .u32 r4)).setCell ⟨b, 5, none⟩ (.int .u32 r5)).setCell ⟨b, 6, none⟩ (.int .u32 r6)).setCell ⟨b, 7, none⟩ (.int .u32 r7)) := (below_setB (below_setB (below_setB (below_setB (below_setB (below_setB (below_setB (below_setB h hb _) hb _) hb _) hb _) hb _) hb _) hb _) hb _)
theorem stC8 (w : World) (b : Nat) (v : List Int) (s : Value) (n : Int) (hv : v.length = 8) (h : Stt w b v s n) : w.cell? ⟨b, 8, none⟩ = some s ∧ w.cell? ⟨b, 9, none⟩ = some (.int .u64 n) ∧ ∀ i, w.frozen? ⟨b, i, none⟩ = false := by
  obtain ⟨a0, a1, a2, a3, a4, a5, a6, a7, rfl⟩ := eight hv
  have h8 := cell_of_row w b 8 _ 90 (0, 0) h
  have h9 := cell_of_row w b 9 _ 90 (0, 0) h
  refine ⟨h8, h9, fun i => ?_⟩
  unfold Stt at h
  simp [World.frozen?, h]
theorem Stt.many {w : World} {b : Nat} {v : List Int} {s : Value} {n : Int} (hv : v.length = 8) (h : Stt w b v s n) (m : Int) : Stt (w.setCell ⟨b, 9, none⟩ (.int .u64 m)) b v s m := by
  obtain ⟨a0, a1, a2, a3, a4, a5, a6, a7, rfl⟩ := eight hv
  exact blk_set h 9 (.int .u64 m)
theorem Stt.some {w : World} {b : Nat} {v : List Int} {s : Value} {n : Int} (hv : v.length = 8) (h : Stt w b v s n) (s' : Value) : Stt (w.setCell ⟨b, 8, none⟩ s') b v s' n := by
  obtain ⟨a0, a1, a2, a3, a4, a5, a6, a7, rfl⟩ := eight hv
  exact blk_set h 8 s'
set_option maxHeartbeats 1000000 in
set_option maxRecDepth 100000 in
theorem sum_Write.calls (b b0 : Nat) (t : ByteArray) (w : World) (hS : Stt w b sum_beginV (.slice none 0 0) 0) (hb0 : b0 ≤ b) (hsz : t.size ≤ 70368744177664) :
    Calls Try.prog 45 #[.pointer (some ⟨b, 0, none⟩), .string t] w fun e w' => e = .returned (.tuple #[]) ∧ ∃ (k : Nat) (A : Option Addr) (c : Nat), 64 * k ≤ (bytesOf t).length ∧ (bytesOf t).length < 64 * k + 64 ∧ ((bytesOf t).drop (64 * k)).length ≤ c ∧ Stt w' b (sum_blocks sum_beginV (bytesOf t) k) (.slice A ((bytesOf t).drop (64 * k)).length c) (IntKind.u64.wrap (IntKind.u64.wrap (t.size : Int))) ∧ Kd.F (Kd.int .u8) w' (fun j => j ≠ b) A ((bytesOf t).drop (64 * k)).length ((bytesOf t).drop (64 * k)) ∧ Below b w w' := by
  have HS := Aside0.mk hS
  have HZ := Aside0.mk hsz
  obtain ⟨h8, h9, hf⟩ := stC8 w b _ _ _ rfl hS
  have hf8 := hf 8
  have hf9 := hf 9
  have hlt : b < w.heap.size := (Array.getElem?_eq_some_iff.mp hS).1
  clear hf hS hsz
  go_enter Try.func45, Try.ntmps45
  go_wp2_with ((with_reducible refine gate_builtin (b := .append) (xs := #[.tmp 20, .tmp 21]) rfl ?_); at_builtin; refine print_append_str w.heap.size rfl (.tmp 20) (.tmp 21) 31 9 5 rfl Try.underlying31 Try.underlying9 sum_Of.info (.slice none 0 0) [] t rfl rfl (own_nil _ _ _ _) (Below.refl _ _) (by simp) (by have := HZ.out; simp; omega) ?_; intro v1 w1 ho hb hg; obtain ⟨A1, c1, rfl⟩ := own_slice ho; simp only [List.nil_append] at *; have HO := Aside0.mk ho; have HB := Aside0.mk hb; have hS1 : Stt w1 b _ _ _ := (hb.block b hlt).trans (Stt.many rfl HS.out _); obtain ⟨k8, k9, kf⟩ := stC8 w1 b _ _ _ rfl hS1; have kf8 := kf 8; have HS1 := Aside0.mk hS1; clear ho hb hg kf hS1)
  have hb8 := HB.out
  generalize hm : IntKind.u64.wrap (IntKind.u64.wrap (t.size : Int)) = m at *
  generalize hl : bytesOf t = l at *
  have hA : Kd.F (Kd.int .u8) (w1.setCell ⟨b, 8, none⟩ (.slice A1 l.length c1)) (fun j => j ≠ b) A1 l.length l := by
    refine Kd.F_far (own_F HO.out rfl _ (fun j hj => ?_)) (fun k hk => hk) _
    have := own_base HO.out j hj
    show j ≠ b
    omega
  have hS2 : Stt (w1.setCell ⟨b, 8, none⟩ (.slice A1 l.length c1)) b sum_beginV (.slice A1 l.length c1) m := Stt.some rfl HS1.out _
  have hB2 : Below b w (w1.setCell ⟨b, 8, none⟩ (.slice A1 l.length c1)) := below_setB ((below_setB (Below.refl b w) (Nat.le_refl _) _).trans (hb8.mono (by omega))) (Nat.le_refl _) _
  have hc1 : l.length ≤ c1 := by
    rcases HO.out.2 with ⟨hv, h0⟩ | ⟨g, cap, cur, hv, _, _, hnc, _⟩
    · injection hv with e1 e2 e3
      omega
    · injection hv with e1 e2 e3
      omega
  have FA := Aside0.mk hA
  have FS := Aside0.mk hS2
  have FB := Aside0.mk hB2
  clear hA hS2 hB2 hb8 HO HB HS1 k8 k9 kf8 h8 h9 hf8 hf9
  go_loopw [] (fun wr => ∃ (k : Nat) (A : Option Addr) (c : Nat), 64 * k ≤ l.length ∧ (l.drop (64 * k)).length ≤ c ∧ Aside0 (Stt wr b (sum_blocks sum_beginV l k) (.slice A (l.drop (64 * k)).length c) m) ∧ Aside0 (Kd.F (Kd.int .u8) wr (fun j => j ≠ b) A (l.drop (64 * k)).length (l.drop (64 * k))) ∧ Aside0 (Below b w wr)) (fun wr => match wr.cell? ⟨b, 8, none⟩ with | some (.slice _ n _) => n | _ => 0)
  case atStart => exact ⟨0, A1, c1, by omega, hc1, FS, FA, FB⟩
  case round =>
    clear FS FA FB
    obtain ⟨k, A, c, hk, hc, HS2, HF, HB⟩ := hrel
    have hv := sum_blocks_length sum_beginV l rfl k
    obtain ⟨k8, k9, kf⟩ := stC8 wr b _ _ _ hv HS2.out
    have kf8 := kf 8
    have hnext : ∀ h : 64 * k + 64 ≤ l.length, sum_blocks sum_beginV l (k + 1) = sum_block (sum_blocks sum_beginV l k) (l.drop (64 * k)) ∧ l.drop (64 * (k + 1)) = (l.drop (64 * k)).drop 64 := fun _ => ⟨rfl, by rw [List.drop_drop]; congr 1⟩
    have hlen : (l.drop (64 * k)).length = l.length - 64 * k := List.length_drop
    have HN := Aside0.mk hnext
    have HL := Aside0.mk hlen
    clear hnext hlen
    generalize hp : l.drop (64 * k) = p at *
    generalize hV : sum_blocks sum_beginV l k = V at *
    by_cases h64 : 64 ≤ p.length
    · have c30 : decide (64 ≤ (p.length : Int)) = true := decide_eq_true (by omega)
      obtain ⟨v0, v1, v2, v3, v4, v5, v6, v7, rfl⟩ := eight hv
      have q0 : wr.cell? ⟨b, 0, none⟩ = some (.int .u32 v0) := cell_of_row wr b 0 _ 90 (0, 0) HS2.out
      have q1 : wr.cell? ⟨b, 1, none⟩ = some (.int .u32 v1) := cell_of_row wr b 1 _ 90 (0, 0) HS2.out
      have q2 : wr.cell? ⟨b, 2, none⟩ = some (.int .u32 v2) := cell_of_row wr b 2 _ 90 (0, 0) HS2.out
      have q3 : wr.cell? ⟨b, 3, none⟩ = some (.int .u32 v3) := cell_of_row wr b 3 _ 90 (0, 0) HS2.out
      have q4 : wr.cell? ⟨b, 4, none⟩ = some (.int .u32 v4) := cell_of_row wr b 4 _ 90 (0, 0) HS2.out
      have q5 : wr.cell? ⟨b, 5, none⟩ = some (.int .u32 v5) := cell_of_row wr b 5 _ 90 (0, 0) HS2.out
      have q6 : wr.cell? ⟨b, 6, none⟩ = some (.int .u32 v6) := cell_of_row wr b 6 _ 90 (0, 0) HS2.out
      have q7 : wr.cell? ⟨b, 7, none⟩ = some (.int .u32 v7) := cell_of_row wr b 7 _ 90 (0, 0) HS2.out
      clear k9 kf
      go_upto_if 30 with (fail)
      go_wp2_with fail
      have hcall : ∀ W : World, W.heap = wr.heap → Kd.C (Kd.int .u8) W A p.length p := fun W hW => HF.out W (fun k _ _ => by rw [hW])
      have HC := Aside0.mk hcall
      clear hcall
      go_cut [31] (fun v31 wc => Aside0 (Stt wc b (sum_block [v0, v1, v2, v3, v4, v5, v6, v7] p) (.slice A p.length c) m) ∧ Aside0 (Kd.F (Kd.int .u8) wc (fun j => j ≠ b) A p.length p) ∧ Aside0 (Below b w wc))
      case first J1 K1 hJ1 hK1 =>
        go_region_law (first | (go_simp; go_at_call 59; refine (sum_stir.calls [v0, v1, v2, v3, v4, v5, v6, v7] p A c wr.drew rfl h64 (HC.out wr.drew rfl) hc).mono ?_; rintro e w2 ⟨rfl, hb⟩; have hS9 : Stt w2 b [v0, v1, v2, v3, v4, v5, v6, v7] (.slice A p.length c) m := (hb.block b (Array.getElem?_eq_some_iff.mp (show wr.drew.heap[b]? = _ from HS2.out)).1).trans HS2.out; have HS9 := Aside0.mk hS9; have g0 : w2.cell? ⟨b, 0, none⟩ = some (.int .u32 v0) := cell_of_row w2 b 0 _ 90 (0, 0) HS9.out; have g1 : w2.cell? ⟨b, 1, none⟩ = some (.int .u32 v1) := cell_of_row w2 b 1 _ 90 (0, 0) HS9.out; have g2 : w2.cell? ⟨b, 2, none⟩ = some (.int .u32 v2) := cell_of_row w2 b 2 _ 90 (0, 0) HS9.out; have g3 : w2.cell? ⟨b, 3, none⟩ = some (.int .u32 v3) := cell_of_row w2 b 3 _ 90 (0, 0) HS9.out; have g4 : w2.cell? ⟨b, 4, none⟩ = some (.int .u32 v4) := cell_of_row w2 b 4 _ 90 (0, 0) HS9.out; have g5 : w2.cell? ⟨b, 5, none⟩ = some (.int .u32 v5) := cell_of_row w2 b 5 _ 90 (0, 0) HS9.out; have g6 : w2.cell? ⟨b, 6, none⟩ = some (.int .u32 v6) := cell_of_row w2 b 6 _ 90 (0, 0) HS9.out; have g7 : w2.cell? ⟨b, 7, none⟩ = some (.int .u32 v7) := cell_of_row w2 b 7 _ 90 (0, 0) HS9.out; have HB9 := Aside0.mk hb; have f9 := (stC8 w2 b _ _ _ rfl hS9).2.2; have f0 := f9 0; have f1 := f9 1; have f2 := f9 2; have f3 := f9 3; have f4 := f9 4; have f5 := f9 5; have f6 := f9 6; have f7 := f9 7; clear f9 hb hS9; (obtain ⟨r0, r1, r2, r3, r4, r5, r6, r7, hR⟩ := eight (sum_block_length [v0, v1, v2, v3, v4, v5, v6, v7] p rfl)); rw [hR, show u32s [r0, r1, r2, r3, r4, r5, r6, r7] = #[.int .u32 r0, .int .u32 r1, .int .u32 r2, .int .u32 r3, .int .u32 r4, .int .u32 r5, .int .u32 r6, .int .u32 r7] from rfl]; dsimp only))
        all_goals (refine hK1 _ _ ?_; go_meet; (case rel => (first | rw [hR] | skip); exact ⟨⟨Stt.words HS9.out _ _ _ _ _ _ _ _⟩, ⟨F_words (Kd.F_below (Kd.F_drew HF.out) HB9.out) _ _ _ _ _ _ _ _⟩, ⟨below_words ((pw_below_drewN HB.out 1).trans (HB9.out.mono (Nat.le_of_lt (Nat.lt_of_lt_of_le hlt HB.out.size)))) (Nat.le_refl _) _ _ _ _ _ _ _ _⟩⟩))
      case rest =>
        obtain ⟨GS, GF, GB⟩ := hcut
        clear HS2 HF HB q0 q1 q2 q3 q4 q5 q6 q7 HC
        have kold := k8
        clear k8 kf8
        obtain ⟨k8, k9, kf⟩ := stC8 wc b _ _ _ (sum_block_length _ _ rfl) GS.out
        have kf8 := kf 8
        clear kf k9
        obtain ⟨i5, hi5, hzz⟩ := Option.map_eq_some_iff.1 sum_Of.info
        simp only [Prod.mk.injEq] at hzz
        obtain ⟨A', hsl, hrd, hle⟩ := print_cut_int (k := .u8) 31 5 Try.underlying31 hi5 hzz.2.1 A c p 64 (by decide) (by omega) hc
        have RD := Aside0.mk hrd
        have LE := Aside0.mk hle
        have KO := Aside0.mk kold
        clear hrd hle hi5 hzz kold
        go_wp2_with fail
        go_roundw
        case rel =>
          have hn := HN.out (by have := HL.out; omega)
          have e64 : p.length - 64 = (l.drop (64 * (k + 1))).length := by rw [hn.2, List.length_drop]
          have hle2 : (p.drop 64).length ≤ c - 64 := LE.out
          refine ⟨k + 1, A', c - 64, by have := HL.out; omega, ?_, ⟨?_⟩, ⟨?_⟩, ⟨below_setB GB.out (Nat.le_refl _) _⟩⟩
          · rw [hn.2]
            exact hle2
          · rw [← e64, hn.1]
            exact Stt.some (sum_block_length _ _ rfl) GS.out _
          · rw [hn.2]
            exact Kd.F_far (Kd.F_imp GF.out (fun W' hC => Kd.C_of_reads (RD.out W' (Kd.reads_of_C hC)))) (fun k hk => hk) _
        case measure =>
          rw [World.cell?_setCell_same' wc ⟨b, 8, none⟩ _ (by rw [k8]; rfl)]
          rw [KO.out]
          show p.length - 64 < p.length
          omega
    · have c30 : decide (64 ≤ (p.length : Int)) = false := decide_eq_false (by omega)
      go_upto_if 30 with (fail)
      go_wp2_with fail
      have hr : ∀ (tm : Array Value) (W : World), (results Try.f45 tm).run Try.prog W = .ok (.tuple #[]) W := fun tm W => by
        have h0 : Try.f45.results = #[] := rfl
        simp [results, h0]
      refine ⟨rfl, _, hr _ _, rfl, ?_⟩
      rw [hl, hm]
      refine ⟨k, A, c, hk, by have := HL.out; omega, ?_, ?_, ?_, HB.out⟩
      · rw [hp]; exact hc
      · rw [hp, hV]; exact HS2.out
      · rw [hp]; exact HF.out
def sliceLen : Value → Nat
  | .slice _ n _ => n
  | _ => 0
def sum_tail (m : Int) : Nat → List Int
  | 0 => []
  | i + 1 => sum_tail m i ++ [IntKind.u64.wrap (m * 8) / 2 ^ (8 * (7 - i)) % 256]
def sum_pads (n : Nat) : Nat := if n + 1 ≤ 56 then 56 - (n + 1) else 120 - (n + 1)
theorem sum_tail_length (m : Int) : ∀ i, (sum_tail m i).length = i
  | 0 => rfl
  | i + 1 => by rw [sum_tail, List.length_append, sum_tail_length m i]; rfl
theorem sum_index8 (w : World) (xs : List Int) (hl : xs.length = 8) (i : Nat) (hi : i < 8) : Sem.run Try.prog (Instr.index 71 (.agg (u32s xs)) (.int .i64 (i : Int))) w = .ok (.int .u32 (rd xs (i : Int))) w := by
  have hk := u32s_get xs i (by omega)
  have h0 : (0 : Int) ≤ (i : Int) := Int.natCast_nonneg i
  have h1 : (i : Int) < 8 := by omega
  have hu := Try.underlying71
  unfold Instr.index
  go_simp
/-- A word's four bytes, so many of them; and so many words' bytes. -/
def sum_four (x : Int) : Nat → List Int
  | 0 => []
  | j + 1 => sum_four x j ++ [x / 2 ^ (24 - 8 * j) % 256]
def sum_out (xs : List Int) : Nat → List Int
  | 0 => []
  | i + 1 => sum_out xs i ++ sum_four (rd xs (i : Int)) 4
theorem sum_four_length (x : Int) : ∀ j, (sum_four x j).length = j
  | 0 => rfl
  | j + 1 => by rw [sum_four, List.length_append, sum_four_length x j]; rfl
theorem sum_out_length (xs : List Int) : ∀ i, (sum_out xs i).length = 4 * i
  | 0 => rfl
  | i + 1 => by rw [sum_out, List.length_append, sum_out_length xs i, sum_four_length]; omega
def sum_padded (p : List Int) (n : Int) : List Int := p ++ [128] ++ List.replicate (sum_pads p.length) 0 ++ sum_tail n 8
def sum_outcome (v p : List Int) (n : Int) : ByteArray := strOfNums (sum_out (sum_blocks v (sum_padded p n) ((sum_padded p n).length / 64)) 8)
set_option maxHeartbeats 400000 in
set_option maxRecDepth 100000 in
theorem sum_Sum.calls (b : Nat) (v p : List Int) (A : Option Addr) (c : Nat) (n : Int) (w : World) (hv : v.length = 8) (hS : Stt w b v (.slice A p.length c) n) (hF : Kd.F (Kd.int .u8) w (fun j => j ≠ b) A p.length p) (hp : p.length < 64) :
    Calls Try.prog 46 #[.pointer (some ⟨b, 0, none⟩)] w fun e w' => e = .returned (.string (sum_outcome v p n)) ∧ Below w.heap.size w w' := by
  have HS := Aside0.mk hS
  have HV := Aside0.mk hv
  have HP := Aside0.mk hp
  have HF := Aside0.mk hF
  obtain ⟨h8, h9, hf⟩ := stC8 w b _ _ _ hv hS
  have hlt : b < w.heap.size := (Array.getElem?_eq_some_iff.mp hS).1
  clear hf hS hv hp hF
  go_enter Try.func46, Try.ntmps46
  go_wp2_with (first | ((with_reducible refine gate_builtin (b := .append) (xs := #[.tmp 12, .tmp 16]) rfl ?_); go_must (at_builtin; refine print_append_row (w0 := w) w.heap.size rfl (.tmp 12) (.tmp 16) 31 5 .u8 1 rfl Try.underlying31 sum_Of.info (by decide) (.slice (some ⟨w.heap.size, 0, none⟩) 0 0) [] p A p.length c rfl rfl (own_lit w w.heap.size 5 .u8 [] (Nat.le_refl _) (by simp)) (Kd.reads_of_C (Kd.F_now (Kd.F_alloc HF.out _))) (below_alloc (Below.refl _ _) _) (by rw [sz_alloc]; omega) (by have := HP.out; simp; omega) ?_; intro v1 w1 ho hb hg hat; obtain ⟨A1, c1, rfl⟩ := own_slice ho; simp only [List.nil_append] at *; have HO := Aside0.mk ho; have HB := Aside0.mk hb; clear ho hb hg hat)) | ((with_reducible refine gate_builtin (b := .append) (xs := #[.tmp 18, .tmp 19]) rfl ?_); go_must (at_builtin; refine print_append_num (w0 := w) (W := w1) w.heap.size rfl (.tmp 18) (.tmp 19) 31 5 .u8 1 rfl Try.underlying31 sum_Of.info (by decide) (.slice A1 p.length c1) p 128 rfl rfl HO.out HB.out HB.out.size (by have := HP.out; omega) ?_; intro v2 w2 ho hb hg hat; obtain ⟨A2, c2, rfl⟩ := own_slice ho; have HO2 := Aside0.mk ho; have HB2 := Aside0.mk hb; clear ho hb hg hat)))
  have HL2 : Aside0 (w2.ownsRow w.heap.size 5 1 (.slice A2 (p.length + 1 + 0) c2) (p.length + 1 + 0) (nums .u8 (p ++ [128] ++ List.replicate 0 0))) := ⟨by simpa using HO2.out⟩
  clear HO HB HO2
  go_loopw [3] (fun u3 wr => ∃ (k : Nat) (A : Option Addr) (c : Nat), u3 = .slice A (p.length + 1 + k) c ∧ Aside0 (k ≤ sum_pads p.length) ∧ Aside0 (wr.ownsRow w.heap.size 5 1 (.slice A (p.length + 1 + k) c) (p.length + 1 + k) (nums .u8 (p ++ [128] ++ List.replicate k 0))) ∧ Aside0 (Below w.heap.size w wr)) (fun u3 _ => match u3 with | .slice _ n _ => 120 - n | _ => 0)
  case atStart => exact ⟨0, A2, c2, rfl, ⟨Nat.zero_le _⟩, HL2, HB2⟩
  case round =>
    clear HL2 HB2
    obtain ⟨k, A3, c3, rfl, HK, HQ, HB⟩ := hrel
    have hkp := HK.out
    have htm : Int.tmod ((p.length + 1 + k : Nat) : Int) 64 = ((p.length + 1 + k : Nat) : Int) % 64 := rfl
    generalize hN : p.length + 1 + k = N at *
    have tm2 : Int.tmod (N : Int) 64 = ((N % 64 : Nat) : Int) := by rw [htm]; rfl
    clear htm
    by_cases h56 : N % 64 = 56
    · have hk2 : k = sum_pads p.length := by
        have := HP.out
        unfold sum_pads at hkp ⊢
        split at hkp <;> split <;> omega
      clear hkp
      have hql : (p ++ [128] ++ List.replicate k 0 : List Int).length = N := by simp; omega
      generalize hq : p ++ [128] ++ List.replicate k 0 = q at *
      have HE : Aside0 (p ++ [128] ++ List.replicate (sum_pads p.length) 0 = q) := ⟨by rw [← hk2]; exact hq⟩
      have hN4 : N = 56 ∨ N = 120 := by
        have := HP.out
        rw [hk2] at hN
        unfold sum_pads at hN
        split at hN <;> omega
      have QL := Aside0.mk hql
      have N4 := Aside0.mk hN4
      clear hql hN4 h8 h9
      go_wp2_with fail
      have HQ2 : Aside0 (wr.ownsRow w.heap.size 5 1 (.slice A3 (N + 0) c3) (N + 0) (nums .u8 (q ++ sum_tail n 0))) := ⟨by simpa [sum_tail] using HQ.out⟩
      clear HQ h56 tm2
      go_loopw [3, 28] (fun u3 u28 wr => ∃ (i : Nat) (A : Option Addr) (c : Nat), u3 = .slice A (N + i) c ∧ u28 = .int .i64 i ∧ i ≤ 8 ∧ Aside0 (wr.ownsRow w.heap.size 5 1 (.slice A (N + i) c) (N + i) (nums .u8 (q ++ sum_tail n i))) ∧ Aside0 (Below w.heap.size w wr)) (fun _ u28 _ => 8 - (intOf u28).toNat)
      case atStart => exact ⟨0, A3, c3, rfl, rfl, by omega, HQ2, HB⟩
      case round =>
        clear HQ2 HB
        obtain ⟨i, A5, c5, rfl, rfl, hi, HQ, HB⟩ := hrel
        have h9 := (stC8 wr b _ _ _ HV.out (show Stt wr b _ _ _ from (HB.out.block b hlt).trans HS.out)).2.1
        by_cases hlt8 : i < 8
        · have hi8 : (i : Int) < 8 := by omega
          have XL : Aside0 ((q ++ sum_tail n i).length = N + i) := ⟨by rw [List.length_append, QL.out, sum_tail_length]⟩
          have YL : Aside0 (((q ++ sum_tail n i) ++ [IntKind.u64.wrap (n * 8) / 2 ^ (8 * (7 - i)) % 256]).length = N + (i + 1)) := ⟨by rw [List.length_append, XL.out]; rfl⟩
          go_wp2_with ((with_reducible refine gate_builtin (b := .append) (xs := #[.tmp 31, .tmp 42]) rfl ?_); go_must (at_builtin; refine print_append_num (w0 := w) (W := wr) w.heap.size rfl (.tmp 31) (.tmp 42) 31 5 .u8 1 rfl Try.underlying31 sum_Of.info (by decide) (.slice A5 (N + i) c5) (q ++ sum_tail n i) (IntKind.u64.wrap (n * 8) / 2 ^ (8 * (7 - i)) % 256) rfl rfl (by rw [XL.out]; exact HQ.out) HB.out HB.out.size (by rw [XL.out]; have := N4.out; omega) ?_; intro v4 w4 ho hb hg hat; rw [YL.out] at ho; obtain ⟨A4, c4, rfl⟩ := own_slice ho; have HO4 := Aside0.mk ho; have HB4 := Aside0.mk hb; clear ho hb hg hat))
          go_roundw
          case rel =>
            refine ⟨i + 1, A4, c4, rfl, rfl, by omega, ⟨?_⟩, HB4⟩
            rw [sum_tail, ← List.append_assoc]
            exact HO4.out
          case measure =>
            simp [intOf]
            omega
        · obtain rfl : i = 8 := by omega
          have hS5 : Stt wr b _ _ _ := (HB.out.block b hlt).trans HS.out
          obtain ⟨v0, v1, v2, v3, v4, v5, v6, v7, hv8⟩ := eight HV.out
          rw [hv8] at hS5
          have q0 : wr.cell? ⟨b, 0, none⟩ = some (.int .u32 v0) := cell_of_row wr b 0 _ 90 (0, 0) hS5
          have q1 : wr.cell? ⟨b, 1, none⟩ = some (.int .u32 v1) := cell_of_row wr b 1 _ 90 (0, 0) hS5
          have q2 : wr.cell? ⟨b, 2, none⟩ = some (.int .u32 v2) := cell_of_row wr b 2 _ 90 (0, 0) hS5
          have q3 : wr.cell? ⟨b, 3, none⟩ = some (.int .u32 v3) := cell_of_row wr b 3 _ 90 (0, 0) hS5
          have q4 : wr.cell? ⟨b, 4, none⟩ = some (.int .u32 v4) := cell_of_row wr b 4 _ 90 (0, 0) hS5
          have q5 : wr.cell? ⟨b, 5, none⟩ = some (.int .u32 v5) := cell_of_row wr b 5 _ 90 (0, 0) hS5
          have q6 : wr.cell? ⟨b, 6, none⟩ = some (.int .u32 v6) := cell_of_row wr b 6 _ 90 (0, 0) hS5
          have q7 : wr.cell? ⟨b, 7, none⟩ = some (.int .u32 v7) := cell_of_row wr b 7 _ 90 (0, 0) hS5
          clear h9 hi hlt8
          go_wp2_with fail
          have hQ8 : (q ++ sum_tail n 8).length = N + 8 := by rw [List.length_append, QL.out, sum_tail_length]
          have hG := (Arr.newAt wr 71 [v0, v1, v2, v3, v4, v5, v6, v7] rfl _ rfl)
          have hBG := below_alloc HB.out (.cells (u32s [v0, v1, v2, v3, v4, v5, v6, v7]) 71)
          have hFG : Kd.F (Kd.int .u8) (wr.alloc (.cells (u32s [v0, v1, v2, v3, v4, v5, v6, v7]) 71)) (fun j => j ≠ wr.heap.size) A5 (N + 8) (q ++ sum_tail n 8) := by
            refine Kd.F_alloc (own_F HQ.out hQ8 _ (fun j hj => ?_)) _
            have := own_lt HQ.out j hj
            show j ≠ wr.heap.size
            omega
          have hc5 : N + 8 ≤ c5 := by
            rcases HQ.out.2 with ⟨hv, h0⟩ | ⟨g, cap, cur, hv, _, _, hnc, _⟩
            · injection hv with e1 e2 e3
              omega
            · injection hv with e1 e2 e3
              omega
          have hgs : w.heap.size ≤ wr.heap.size := HB.out.size
          clear q0 q1 q2 q3 q4 q5 q6 q7 hS5
          generalize wr.heap.size = g at *
          generalize hQ : q ++ sum_tail n 8 = Q at *
          have HG := Aside0.mk hG
          have HBG := Aside0.mk hBG
          have HFG := Aside0.mk hFG
          clear hG hBG hFG HQ HB
          have H64 : Aside0 (Q.length = N + 8) := ⟨hQ8⟩
          rw [← hQ8]
          simp only [Int.cast_ofNat_Int]
          go_loopw [3] (fun u3 wr => ∃ (k : Nat) (A : Option Addr) (c : Nat), u3 = .slice A (Q.drop (64 * k)).length c ∧ 64 * k ≤ Q.length ∧ (Q.drop (64 * k)).length ≤ c ∧ Aside0 (Arr wr g 71 (sum_blocks v Q k)) ∧ Aside0 (Kd.F (Kd.int .u8) wr (fun j => j ≠ g) A (Q.drop (64 * k)).length (Q.drop (64 * k))) ∧ Aside0 (Below w.heap.size w wr)) (fun u3 _ => sliceLen u3)
          case atStart => exact ⟨0, A5, c5, rfl, by omega, (by rw [← hQ8] at hc5; exact hc5), ⟨by rw [hv8]; exact HG.out⟩, ⟨by rw [← hQ8] at HFG; exact HFG.out⟩, HBG⟩
          case round =>
            clear HG HBG HFG hc5
            obtain ⟨k, A6, c6, rfl, hk, hc, HA, HF6, HB⟩ := hrel
            have hlx := sum_blocks_length v Q HV.out k
            have HL := Aside0.mk (show (Q.drop (64 * k)).length = Q.length - 64 * k from List.length_drop)
            have HNX := Aside0.mk (show sum_blocks v Q (k + 1) = sum_block (sum_blocks v Q k) (Q.drop (64 * k)) ∧ Q.drop (64 * (k + 1)) = (Q.drop (64 * k)).drop 64 from ⟨rfl, by rw [List.drop_drop]; congr 1⟩)
            generalize hP : Q.drop (64 * k) = P at *
            generalize hX : sum_blocks v Q k = X at *
            obtain ⟨x0, x1, x2, x3, x4, x5, x6, x7, rfl⟩ := eight hlx
            by_cases h0 : 0 < P.length
            · have h00 : (0 : Int) < (P.length : Int) := by omega
              have h64 : 64 ≤ P.length := by
                have h1 := HL.out
                have h2 := H64.out
                have h3 := N4.out
                omega
              obtain ⟨i5, hi5, hzz⟩ := Option.map_eq_some_iff.1 sum_Of.info
              simp only [Prod.mk.injEq] at hzz
              obtain ⟨A', hsl, hrd, hle⟩ := print_cut_int (k := .u8) 31 5 Try.underlying31 hi5 hzz.2.1 A6 c6 P 64 (by decide) (by omega) hc
              have RD := Aside0.mk hrd
              have LE := Aside0.mk hle
              clear hrd hle hi5 hzz
              have y0 : wr.cell? ⟨g, 0, none⟩ = some (.int .u32 x0) := HA.out.cellN 0 (by show 0 < 8; omega)
              have y1 : wr.cell? ⟨g, 1, none⟩ = some (.int .u32 x1) := HA.out.cellN 1 (by show 1 < 8; omega)
              have y2 : wr.cell? ⟨g, 2, none⟩ = some (.int .u32 x2) := HA.out.cellN 2 (by show 2 < 8; omega)
              have y3 : wr.cell? ⟨g, 3, none⟩ = some (.int .u32 x3) := HA.out.cellN 3 (by show 3 < 8; omega)
              have y4 : wr.cell? ⟨g, 4, none⟩ = some (.int .u32 x4) := HA.out.cellN 4 (by show 4 < 8; omega)
              have y5 : wr.cell? ⟨g, 5, none⟩ = some (.int .u32 x5) := HA.out.cellN 5 (by show 5 < 8; omega)
              have y6 : wr.cell? ⟨g, 6, none⟩ = some (.int .u32 x6) := HA.out.cellN 6 (by show 6 < 8; omega)
              have y7 : wr.cell? ⟨g, 7, none⟩ = some (.int .u32 x7) := HA.out.cellN 7 (by show 7 < 8; omega)
              go_wp2_with (go_at_call 59; go_must (refine (sum_stir.calls [x0, x1, x2, x3, x4, x5, x6, x7] P A6 c6 wr rfl h64 (Kd.F_now HF6.out) hc).mono ?_; rintro e w2 ⟨rfl, hb⟩; have HB9 := Aside0.mk hb; have HA9 := Aside0.mk (HA.out.below hb); have g0 : w2.cell? ⟨g, 0, none⟩ = some (.int .u32 x0) := HA9.out.cellN 0 (by show 0 < 8; omega); have g1 : w2.cell? ⟨g, 1, none⟩ = some (.int .u32 x1) := HA9.out.cellN 1 (by show 1 < 8; omega); have g2 : w2.cell? ⟨g, 2, none⟩ = some (.int .u32 x2) := HA9.out.cellN 2 (by show 2 < 8; omega); have g3 : w2.cell? ⟨g, 3, none⟩ = some (.int .u32 x3) := HA9.out.cellN 3 (by show 3 < 8; omega); have g4 : w2.cell? ⟨g, 4, none⟩ = some (.int .u32 x4) := HA9.out.cellN 4 (by show 4 < 8; omega); have g5 : w2.cell? ⟨g, 5, none⟩ = some (.int .u32 x5) := HA9.out.cellN 5 (by show 5 < 8; omega); have g6 : w2.cell? ⟨g, 6, none⟩ = some (.int .u32 x6) := HA9.out.cellN 6 (by show 6 < 8; omega); have g7 : w2.cell? ⟨g, 7, none⟩ = some (.int .u32 x7) := HA9.out.cellN 7 (by show 7 < 8; omega); have f0 := HA9.out.frozen 0; have f1 := HA9.out.frozen 1; have f2 := HA9.out.frozen 2; have f3 := HA9.out.frozen 3; have f4 := HA9.out.frozen 4; have f5 := HA9.out.frozen 5; have f6 := HA9.out.frozen 6; have f7 := HA9.out.frozen 7; clear hb; (obtain ⟨r0, r1, r2, r3, r4, r5, r6, r7, hR⟩ := eight (sum_block_length [x0, x1, x2, x3, x4, x5, x6, x7] P rfl)); rw [hR, show u32s [r0, r1, r2, r3, r4, r5, r6, r7] = #[.int .u32 r0, .int .u32 r1, .int .u32 r2, .int .u32 r3, .int .u32 r4, .int .u32 r5, .int .u32 r6, .int .u32 r7] from rfl]))
              clear hQ8
              go_roundw
              case rel =>
                have hn := HNX.out
                have hle2 : (P.drop 64).length ≤ c6 - 64 := LE.out
                have e64 : P.length - 64 = (Q.drop (64 * (k + 1))).length := by rw [hn.2, List.length_drop]
                refine ⟨k + 1, A', c6 - 64, by rw [e64], by have := HL.out; omega, by rw [hn.2]; exact hle2, ⟨?_⟩, ⟨?_⟩, ⟨(below_setB (below_setB (below_setB (below_setB (below_setB (below_setB (below_setB (below_setB (HB.out.trans (HB9.out.mono HB.out.size)) hgs _) hgs _) hgs _) hgs _) hgs _) hgs _) hgs _) hgs _)⟩⟩
                · rw [hn.1, hR]
                  exact ((((((((HA9.out.set 0 (by show 0 < 8; decide) r0).set 1 (by show 1 < 8; decide) r1).set 2 (by show 2 < 8; decide) r2).set 3 (by show 3 < 8; decide) r3).set 4 (by show 4 < 8; decide) r4).set 5 (by show 5 < 8; decide) r5).set 6 (by show 6 < 8; decide) r6).set 7 (by show 7 < 8; decide) r7)
                · rw [hn.2]
                  exact Kd.F_imp (Kd.F_far (Kd.F_far (Kd.F_far (Kd.F_far (Kd.F_far (Kd.F_far (Kd.F_far (Kd.F_far (Kd.F_below HF6.out HB9.out) (fun k hk => hk) _) (fun k hk => hk) _) (fun k hk => hk) _) (fun k hk => hk) _) (fun k hk => hk) _) (fun k hk => hk) _) (fun k hk => hk) _) (fun k hk => hk) _) (fun W' hC => Kd.C_of_reads (RD.out W' (Kd.reads_of_C hC)))
              case measure =>
                show P.length - 64 < P.length
                omega
            · have hP0 : P.length = 0 := by omega
              have hP1 : P = [] := List.eq_nil_of_length_eq_zero hP0
              subst hP1
              have y0 : wr.cell? ⟨g, 0, none⟩ = some (.int .u32 x0) := HA.out.cellN 0 (by show 0 < 8; omega)
              have y1 : wr.cell? ⟨g, 1, none⟩ = some (.int .u32 x1) := HA.out.cellN 1 (by show 1 < 8; omega)
              have y2 : wr.cell? ⟨g, 2, none⟩ = some (.int .u32 x2) := HA.out.cellN 2 (by show 2 < 8; omega)
              have y3 : wr.cell? ⟨g, 3, none⟩ = some (.int .u32 x3) := HA.out.cellN 3 (by show 3 < 8; omega)
              have y4 : wr.cell? ⟨g, 4, none⟩ = some (.int .u32 x4) := HA.out.cellN 4 (by show 4 < 8; omega)
              have y5 : wr.cell? ⟨g, 5, none⟩ = some (.int .u32 x5) := HA.out.cellN 5 (by show 5 < 8; omega)
              have y6 : wr.cell? ⟨g, 6, none⟩ = some (.int .u32 x6) := HA.out.cellN 6 (by show 6 < 8; omega)
              have y7 : wr.cell? ⟨g, 7, none⟩ = some (.int .u32 x7) := HA.out.cellN 7 (by show 7 < 8; omega)
              clear h0
              simp only [List.length_nil]
              go_wp2_with fail
              have hbw := HB
              go_loopw [6, 58] (fun u6 u58 wr => ∃ (i : Nat) (A : Option Addr) (c : Nat), u58 = .int .i64 i ∧ i ≤ 8 ∧ u6 = .slice A (4 * i) c ∧ Aside0 (wr.ownsRow w.heap.size 5 1 (.slice A (4 * i) c) (4 * i) (nums .u8 (sum_out [x0, x1, x2, x3, x4, x5, x6, x7] i))) ∧ Aside0 (Below w.heap.size w wr)) (fun _ u58 _ => 8 - (intOf u58).toNat)
              case atStart => exact ⟨0, none, 0, rfl, by omega, rfl, ⟨own_nil _ _ _ _⟩, HB⟩
              case round =>
                clear HB hbw HA HF6 y0 y1 y2 y3 y4 y5 y6 y7
                obtain ⟨i, A7, c7, rfl, hi, rfl, HQ, HB⟩ := hrel
                by_cases hlt8 : i < 8
                · have hix := sum_index8 wr [x0, x1, x2, x3, x4, x5, x6, x7] rfl i hlt8
                  rw [show u32s [x0, x1, x2, x3, x4, x5, x6, x7] = #[.int .u32 x0, .int .u32 x1, .int .u32 x2, .int .u32 x3, .int .u32 x4, .int .u32 x5, .int .u32 x6, .int .u32 x7] from rfl] at hix
                  have hi8 : (i : Int) < 8 := by omega
                  go_wp2_with fail
                  generalize hx : rd [x0, x1, x2, x3, x4, x5, x6, x7] (i : Int) = x at *
                  have HQ0 : Aside0 (wr.ownsRow w.heap.size 5 1 (.slice A7 (4 * i + 0) c7) (4 * i + 0) (nums .u8 (sum_out [x0, x1, x2, x3, x4, x5, x6, x7] i ++ sum_four x 0))) := ⟨by simpa [sum_four] using HQ.out⟩
                  clear hix HQ
                  go_loopw [6, 9] (fun u6 u9 wr => ∃ (j : Nat) (A : Option Addr) (c : Nat), u9 = .int .i64 (24 - 8 * (j : Int)) ∧ j ≤ 4 ∧ u6 = .slice A (4 * i + j) c ∧ Aside0 (wr.ownsRow w.heap.size 5 1 (.slice A (4 * i + j) c) (4 * i + j) (nums .u8 (sum_out [x0, x1, x2, x3, x4, x5, x6, x7] i ++ sum_four x j))) ∧ Aside0 (Below w.heap.size w wr)) (fun _ u9 _ => (intOf u9 + 8).toNat)
                  case atStart => exact ⟨0, A7, c7, rfl, by omega, rfl, HQ0, HB⟩
                  case round =>
                    clear HQ0 HB
                    obtain ⟨j, A8, c8, rfl, hj, rfl, HQ, HB⟩ := hrel
                    by_cases hlt4 : j < 4
                    · have hj4 : (0 : Int) ≤ 24 - 8 * (j : Int) := by omega
                      have hj5 : (24 - 8 * (j : Int)).toNat = 24 - 8 * j := by omega
                      have XL : Aside0 ((sum_out [x0, x1, x2, x3, x4, x5, x6, x7] i ++ sum_four x j).length = 4 * i + j) := ⟨by rw [List.length_append, sum_out_length, sum_four_length]⟩
                      have YL : Aside0 (((sum_out [x0, x1, x2, x3, x4, x5, x6, x7] i ++ sum_four x j) ++ [x / 2 ^ (24 - 8 * j) % 256]).length = 4 * i + (j + 1)) := ⟨by rw [List.length_append, XL.out]; rfl⟩
                      go_wp2_with ((with_reducible refine gate_builtin (b := .append) (xs := #[.tmp 65, .tmp 70]) rfl ?_); go_must (at_builtin; refine print_append_num (w0 := w) (W := wr) w.heap.size rfl (.tmp 65) (.tmp 70) 31 5 .u8 1 rfl Try.underlying31 sum_Of.info (by decide) (.slice A8 (4 * i + j) c8) (sum_out [x0, x1, x2, x3, x4, x5, x6, x7] i ++ sum_four x j) (x / 2 ^ (24 - 8 * j) % 256) rfl rfl (by rw [XL.out]; exact HQ.out) HB.out HB.out.size (by rw [XL.out]; omega) ?_; intro v4 w4 ho hb hg hat; rw [YL.out] at ho; obtain ⟨A4, c4, rfl⟩ := own_slice ho; have HO4 := Aside0.mk ho; have HB4 := Aside0.mk hb; clear ho hb hg hat))
                      go_roundw
                      case rel =>
                        refine ⟨j + 1, A4, c4, by congr 1; omega, by omega, rfl, ⟨?_⟩, HB4⟩
                        rw [sum_four, ← List.append_assoc]
                        exact HO4.out
                      case measure =>
                        simp [intOf]
                        omega
                    · obtain rfl : j = 4 := by omega
                      have hj4 : ¬ (0 : Int) ≤ 24 - 8 * ((4 : Nat) : Int) := by decide
                      go_wp2_with fail
                      go_roundw
                      case rel =>
                        refine ⟨i + 1, A8, c8, rfl, by omega, rfl, ⟨?_⟩, HB⟩
                        rw [sum_out, hx]
                        exact HQ.out
                      case measure =>
                        simp [intOf]
                        omega
                · obtain rfl : i = 8 := by omega
                  have hcs := own_string (P := Try.prog) (src := 31) (dst := 9) Try.underlying31 Try.underlying5 Try.underlying9 HQ.out
                  go_wp2_with fail
                  go_ret
                  refine ⟨?_, HB.out⟩
                  have e1 : sum_padded p n = Q := by rw [sum_padded, HE.out, hQ]
                  have e2 : Q.length / 64 = k := by
                    have h1 := HL.out
                    simp only [List.length_nil] at h1
                    omega
                  rw [sum_outcome, e1, e2, hX]
                  rfl
    · have c24 : ((N : Int) % 64 != 56) = true := by
        rw [bne_iff_ne]
        omega
      have hxl : (p ++ [128] ++ List.replicate k 0 : List Int).length = N := by simp; omega
      have hyl : ((p ++ [128] ++ List.replicate k 0 : List Int) ++ [0]).length = N + 1 := by rw [List.length_append, hxl]; rfl
      have HP2 := HP.out
      have hn120 : N < 120 := by unfold sum_pads at hkp; split at hkp <;> omega
      have hk1 : k + 1 ≤ sum_pads p.length := by unfold sum_pads at hkp ⊢; split at hkp <;> split <;> omega
      have XL := Aside0.mk hxl
      have YL := Aside0.mk hyl
      have K1 := Aside0.mk hk1
      have N1 := Aside0.mk hn120
      clear hxl hyl hk1 hn120 hkp HP2
      go_wp2_with ((with_reducible refine gate_builtin (b := .append) (xs := #[.tmp 25, .tmp 26]) rfl ?_); go_must (at_builtin; refine print_append_num (w0 := w) (W := wr) w.heap.size rfl (.tmp 25) (.tmp 26) 31 5 .u8 1 rfl Try.underlying31 sum_Of.info (by decide) (.slice A3 N c3) (p ++ [128] ++ List.replicate k 0) 0 rfl rfl (by rw [XL.out]; exact HQ.out) HB.out HB.out.size (by rw [XL.out]; have := N1.out; omega) ?_; intro v4 w4 ho hb hg hat; rw [YL.out] at ho; obtain ⟨A4, c4, rfl⟩ := own_slice ho; have HO4 := Aside0.mk ho; have HB4 := Aside0.mk hb; clear ho hb hg hat))
      go_roundw
      case rel =>
        have e1 : N + 1 = p.length + 1 + (k + 1) := by omega
        refine ⟨k + 1, A4, c4, by rw [e1], K1, ⟨?_⟩, HB4⟩
        rw [← e1, List.replicate_succ', ← List.append_assoc]
        exact HO4.out
      case measure =>
        show 120 - (N + 1) < 120 - N
        have := N1.out
        omega
/-- What sum.Of makes of a text; it is for texts of at most 2^46 bytes. -/
def sum_hash (t : ByteArray) : ByteArray := sum_outcome (sum_blocks sum_beginV (bytesOf t) ((bytesOf t).length / 64)) ((bytesOf t).drop (64 * ((bytesOf t).length / 64))) (IntKind.u64.wrap (IntKind.u64.wrap (t.size : Int)))
theorem sum_hash_size (t : ByteArray) : (sum_hash t).size = 32 := by
  have h := sum_out_length (sum_blocks (sum_blocks sum_beginV (bytesOf t) ((bytesOf t).length / 64)) (sum_padded ((bytesOf t).drop (64 * ((bytesOf t).length / 64))) (IntKind.u64.wrap (IntKind.u64.wrap (t.size : Int)))) ((sum_padded ((bytesOf t).drop (64 * ((bytesOf t).length / 64))) (IntKind.u64.wrap (IntKind.u64.wrap (t.size : Int)))).length / 64)) 8
  unfold sum_hash sum_outcome
  generalize sum_out _ 8 = l at h
  simp [strOfNums, ByteArray.size, h]
def sum_Of.f (t : ByteArray) : Option ByteArray := if t.size ≤ 70368744177664 then some (sum_hash t) else none
theorem sum_Of.calls (t : ByteArray) (r : ByteArray) (w : World) (h : sum_Of.f t = some r) :
    Calls Try.prog 29 #[.string t] w fun e w' => e = .returned (.string r) ∧ Below w.heap.size w w' := by
  unfold sum_Of.f at h
  by_cases h1 : t.size ≤ 70368744177664
  · rw [if_pos h1] at h
    obtain rfl := Option.some.inj h
    clear h
    go_enter Try.func29, Try.ntmps29
    go_wp2_with (first | (go_at_call 44; refine (sum_New.calls _).mono ?_; rintro e w1 ⟨b, rfl, hb, hS, hB⟩) | (go_at_call 45; refine (sum_Write.calls b w.heap.size t w1 hS hb h1).mono ?_; rintro e w2 ⟨rfl, k, A, c, hk, hk2, hc, hS2, hF, hB2⟩) | (go_at_call 46; go_must (refine (sum_Sum.calls b _ _ A c _ w2 (sum_blocks_length sum_beginV _ rfl k) hS2 hF (by rw [List.length_drop]; omega)).mono ?_; rintro e w3 ⟨rfl, hB3⟩)))
    go_ret
    have ek : (bytesOf t).length / 64 = k := by omega
    refine ⟨?_, ?_⟩
    · rw [sum_hash, ek]
      rfl
    · exact (hB.trans (hB2.mono hb)).trans (hB3.mono (by have := hB.size; have := hB2.size; omega))
  · rw [if_neg h1] at h
    cases h


end Go.Proofs.Ytnapcfpecpgdbaa.M
