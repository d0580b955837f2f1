/- The program's functions as plain functions, and that each call comes to what these tell; written by a program of this session, some contracts by hand. Conditions: none. -/
import Derived.Test.YtgepbdkbleapaaaMx0
import Derived.Test.YtgepbdkbleapaaaMx4
namespace Go.Proofs.Ytgepbdkbleapaaa.M
open Go.RowKit Go.Proofs.YtgepbdkbleapaaaW.PrintWords Go.Proofs.YtgepbdkbleapaaaW.PrintLast Go.Proofs.YtgepbdkbleapaaaW.PrintMore
attribute [local go_sem] max2_int min2_int max_two min_two max_three min_three max_four min_four   -- for this text's walks alone
set_option linter.unusedVariables false
set_option linter.unusedSimpArgs false

/-! ### refs_set: function 27 (given by hand) -/
/-- refs.set. -/
def refs_set.f (k : Nat) (a0_0 : ByteArray) (l0_1 : List (S50)) (a1 : ByteArray) (a2 : ByteArray) : Option (ByteArray × List (S50)) := (refs_place.f k l0_1 a1).bind fun p => if l0_1.length ≤ 100000 ∧ 0 ≤ p.1 ∧ p.1 ≤ (l0_1.length : Int) then (if p.2 = true then (if p.1 < (l0_1.length : Int) then (if a2.toList = ([] : List UInt8) then some (a0_0, l0_1.take p.1.toNat ++ l0_1.drop (p.1.toNat + 1)) else some (a0_0, l0_1.take p.1.toNat ++ (⟨(rd_T50 l0_1 p.1).f0, a2⟩ : S50) :: l0_1.drop (p.1.toNat + 1))) else none) else (if a2.toList = ([] : List UInt8) then some (a0_0, l0_1) else some (a0_0, l0_1.take p.1.toNat ++ (⟨a1, a2⟩ : S50) :: l0_1.drop p.1.toNat))) else none
theorem refs_set.mono : ∀ a0 a1 a2 a3 k, LeO (refs_set.f k a0 a1 a2 a3) (refs_set.f (k + 1) a0 a1 a2 a3) := by
 intro a0 a1 a2 a3 k
 unfold refs_set.f
 exact LeO.bind (refs_place.mono _ _ _) (fun _ => LeO.refl _)
theorem refs_set.info : (Try.prog.info? 50).map (fun i => (i.zero, i.size, i.bytes)) = some (some (.agg #[.string ⟨#[]⟩, .string ⟨#[]⟩]), 2, 32) := by kernel_rfl
/-- The cells of refs. -/
def refs_set.flat (l : List (S50)) : List Value := l.flatMap fun x => [.string x.f0, .string x.f1]
theorem refs_set.flat_len (l : List (S50)) : (refs_set.flat l).length = l.length * 2 := by
 unfold refs_set.flat
 induction l with
 | nil => rfl
 | cons x l ih => rw [List.flatMap_cons, List.length_append, ih, List.length_cons, List.length_cons, List.length_cons, List.length_nil]; omega
theorem refs_set.flat_one (l : List (S50)) : ∀ v ∈ refs_set.flat l, v.oneCell' = true := by
 intro v hv
 unfold refs_set.flat at hv
 obtain ⟨x, _, hx⟩ := List.mem_flatMap.mp hv
 simp only [List.mem_cons, List.not_mem_nil, or_false] at hx
 rcases hx with rfl | rfl <;> rfl
theorem refs_set.flat_drop : ∀ (l : List (S50)) (i : Nat), (refs_set.flat l).drop (i * 2) = refs_set.flat (l.drop i)
 | [], i => by simp [refs_set.flat]
 | x :: l, 0 => rfl
 | x :: l, i + 1 => by
  rw [List.drop_succ_cons, ← refs_set.flat_drop l i, show (i + 1) * 2 = i * 2 + 2 by omega]
  show (.string x.f0 :: .string x.f1 :: refs_set.flat l).drop (i * 2 + 2) = _
  rfl
theorem refs_set.flat_take : ∀ (l : List (S50)) (i : Nat), (refs_set.flat l).take (i * 2) = refs_set.flat (l.take i)
 | [], i => by simp [refs_set.flat]
 | x :: l, 0 => rfl
 | x :: l, i + 1 => by
  rw [List.take_succ_cons, show (i + 1) * 2 = i * 2 + 2 by omega]
  show (.string x.f0 :: .string x.f1 :: refs_set.flat l).take (i * 2 + 2) = .string x.f0 :: .string x.f1 :: refs_set.flat (l.take i)
  rw [← refs_set.flat_take l i]
  rfl
theorem refs_set.flat_app (a b : List (S50)) : refs_set.flat (a ++ b) = refs_set.flat a ++ refs_set.flat b := List.flatMap_append ..
theorem refs_set.inner_flat {w : World} {base : Nat} {ok : Nat → Prop} : ∀ {l : List (S50)} {inner : List Value}, Reps (Kd.M k50 w base ok) 2 l inner → inner = refs_set.flat l := by
 intro l inner h
 apply List.ext_getElem?
 intro j
 have hl : inner.length = l.length * 2 := h.1
 have fl := refs_set.flat_len l
 by_cases hj : j < l.length * 2
 ·
  have hd := Nat.div_add_mod j 2
  have hm : j % 2 < 2 := Nat.mod_lt _ (by decide)
  have hlt : j / 2 < l.length := by omega
  have hx := k50_openM (h.2 (j / 2) (l[j / 2]'hlt) (List.getElem?_eq_getElem hlt))
  have hf : ((refs_set.flat l).drop (j / 2 * 2)).take 2 = [.string (l[j / 2]'hlt).f0, .string (l[j / 2]'hlt).f1] := by
   rw [refs_set.flat_drop, List.drop_eq_getElem_cons hlt]
   rfl
  have e : ∀ (L : List Value), L.length = l.length * 2 → L[j]? = ((L.drop (j / 2 * 2)).take 2)[j % 2]? := by
   intro L hL
   rw [List.getElem?_take, if_pos hm, List.getElem?_drop]
   congr 1
   omega
  rw [e inner hl, e _ fl, hf]
  exact congrArg (fun z : List Value => z[j % 2]?) hx
 · rw [List.getElem?_eq_none (by omega), List.getElem?_eq_none (by omega)]
theorem refs_set.reps_flat {w : World} {base : Nat} {ok : Nat → Prop} (l : List (S50)) : Reps (Kd.M k50 w base ok) 2 l (refs_set.flat l) := by
 refine ⟨refs_set.flat_len l, fun j p hj => ?_⟩
 obtain ⟨hl, rfl⟩ := List.getElem?_eq_some_iff.1 hj
 rw [refs_set.flat_drop, List.drop_eq_getElem_cons hl]
 exact k50_mkM _ _ _ _
theorem refs_set.copy (w : World) (ty : TypeId) (b o dLen dCap : Nat) (a : Addr) (sLen sCap : Nat) (cs : List Value)
 (hn : cs.length = Nat.min sLen dLen * 2)
 (hsrc : ∀ j v, cs[j]? = some v → w.cell? (a.add j) = some v) (hc : ∀ j, j < cs.length → (w.cell? ⟨b, o + j, none⟩).isSome = true) (hf : ∀ j, j < cs.length → w.frozen? ⟨b, o + j, none⟩ = false) (h1 : ∀ v ∈ cs, v.oneCell' = true) :
 (Builtin.copy_ #[22, 22] ty #[.slice (some ⟨b, o, none⟩) dLen dCap, .slice (some a) sLen sCap]).run Try.prog w = .ok (goInt (Nat.min sLen dLen)) (w.setCells b o cs) := by
 have hst := run_storeCells_cells (P := Try.prog) b o cs 0 w (by simpa using hc) (by simpa using hf) h1
 obtain ⟨i, hi, _, hs, _⟩ := info_parts refs_set.info
 have hl := run_firstCells_some (P := Try.prog) (w := w) 2 (Nat.min sLen dLen) a sLen sCap cs hn hsrc
 simp [Builtin.copy_, run_underlying Try.underlying22, Builtin.lenOf, sizeOf, typeInfo, hi, hs, hl, hst]
theorem refs_set.setCells_heap (g : Nat) (e : TypeId) : ∀ (vs : List Value) (o : Nat) (w : World) (cur : Array Value), w.heap[g]? = some (.cells cur e (0, 0)) → ∃ cur', (w.setCells g o vs).heap[g]? = some (.cells cur' e (0, 0)) ∧ cur'.size = cur.size
 | [], _, w, cur, h => ⟨cur, h, rfl⟩
 | v :: r, o, w, cur, h => by
  obtain ⟨cur', h1, h2⟩ := refs_set.setCells_heap g e r (o + 1) (w.setCell ⟨g, o, none⟩ v) _ (blk_set h o v)
  exact ⟨cur', h1, by rw [h2, Array.size_setIfInBounds]⟩
theorem refs_set.below_setCells {B : Nat} {w : World} (g : Nat) (hg : B ≤ g) : ∀ (vs : List Value) (o : Nat) (W : World), Below B w W → Below B w (W.setCells g o vs)
 | [], _, W, h => h
 | v :: r, o, W, h => refs_set.below_setCells g hg r (o + 1) _ (h.setCell hg _)
/-- A row of one's own, told by its cells. -/
theorem refs_set.own (w : World) (base g n cap : Nat) (cur : Array Value) (l : List (S50)) (hb : base ≤ g) (hh : w.heap[g]? = some (.cells cur 50 (0, 0))) (hs : cur.size = cap * 2) (hn : l.length = n) (hc : n ≤ cap) (hm : cap ≤ maxLen)
 (hcell : ∀ j v, (refs_set.flat l)[j]? = some v → w.cell? ⟨g, j, none⟩ = some v) : Kd.R k50 50 w base (fun _ => True) (.slice (some ⟨g, 0, none⟩) n cap) l := by
 refine ⟨fun _ _ => trivial, refs_set.flat l, ⟨by rw [refs_set.flat_len]; rfl, .inr ⟨g, cap, cur, by rw [hn], hb, hh, by omega, hm, hs, ?_⟩⟩, refs_set.reps_flat l⟩
 have fl := refs_set.flat_len l
 apply List.ext_getElem?
 intro j
 by_cases hj : j < l.length * 2
 · have h2 := hcell j _ (List.getElem?_eq_getElem (show j < (refs_set.flat l).length by omega))
   rw [List.getElem?_eq_getElem (show j < (refs_set.flat l).length by omega), ← h2, cell_of_row w g j cur _ (0, 0) hh]
   show (cur.toList.take (l.length * 2))[j]? = cur[j]?
   rw [List.getElem?_take, if_pos hj, Array.getElem?_toList]
 · rw [List.getElem?_eq_none (by rw [List.length_take]; show Nat.min (l.length * 2) cur.toList.length ≤ j; simp only [Nat.min_def]; split <;> omega), List.getElem?_eq_none (by omega)]
set_option maxHeartbeats 4000000 in
set_option maxRecDepth 100000 in
/-- slices.Clone of refs. -/
theorem refs_set.clone (A0 : Option Addr) (c0 : Nat) (l0 : List (S50)) (w : World) (hr0 : Kd.C k50 w A0 l0.length l0) (hc0 : l0.length ≤ c0) (h1 : l0.length ≤ 100000) :
 Calls Try.prog 23 #[.slice A0 l0.length c0] w fun e w' => ∃ v0_ : Value, e = .returned (v0_) ∧ Kd.R k50 50 w' w.heap.size (fun _ => True) v0_ l0 ∧ Below w.heap.size w w' := by
 have LM := Aside0.mk h1
 have HR := Aside0.mk hr0
 clear h1
 cases A0 with
 | none =>
  have h0 : l0 = [] := by
   cases l0 with
   | nil => rfl
   | cons x l =>
    obtain ⟨ad, _, he, _⟩ := Kd.C_get hr0 z50 0 (Int.le_refl 0) (by simp)
    cases he
  subst h0
  clear hr0 hc0 LM HR
  have hnil : ∀ W : World, (binOp .eql 22 (.slice none ([] : List (S50)).length c0) (.slice none 0 0)).run Try.prog W = .ok (.bool true) W := fun W => Go.Lib.run_eql_slice_nil W 22 50 none _ c0 0 0 Try.underlying22
  have hnil' : ∀ W : World, (binOp .eql 22 (.slice none 0 c0) (.slice none 0 0)).run Try.prog W = .ok (.bool true) W := fun W => Go.Lib.run_eql_slice_nil W 22 50 none _ c0 0 0 Try.underlying22
  go_enter Try.func23, Try.ntmps23
  go_wp2
  go_ret
  exact ⟨_, rfl, Kd.R_nil _ _ _ _ _, Below.refl _ _⟩
 | some ad =>
  clear hr0
  have hnil : ∀ W : World, (binOp .eql 22 (.slice (some ad) l0.length c0) (.slice none 0 0)).run Try.prog W = .ok (.bool false) W := fun W => Go.Lib.run_eql_slice_nil W 22 50 (some ad) _ c0 0 0 Try.underlying22
  have HB := Aside0.mk (Below.refl w.heap.size w)
  go_enter Try.func23, Try.ntmps23
  go_wp2_with (first | ((with_reducible refine gate_dst (N := 5) rfl ?_); refine Kd.R_lit k50 _ 50 ?hg (N := 5) ?hd (xs := ([] : List (S50))) (inner := []) (ok := fun _ => True) (okp := fun _ => True) ?hr ?hp (fun _ hk => hk) trivial (Below.refl _ _) (Nat.le_refl _) (by simp) ?_; (case hd => rfl); (case hg => rfl); (case hr => first | (go_simp; done) | (go_simp; rfl)); (case hp => exact (Reps.none _ _)); intro v104 w2 ho3 hb hg_ hnew_; clear hg_ hnew_; have HO := Aside0.mk (Kd.R_lower ho3 (below_size HB.out)); have HB2 := Aside0.mk (below_step HB.out hb); clear hb ho3) | ((with_reducible refine gate_builtin (b := .append) (xs := #[.tmp 5, .tmp 6]) rfl ?_); at_builtin; refine Kd.R_append_rows k50 (Rr := Kd.K k50 w2) (w0 := w) w.heap.size rfl (.tmp 5) (.tmp 6) 22 50 (.agg #[.string ⟨#[]⟩, .string ⟨#[]⟩]) 32 rfl Try.underlying22 refs_set.info rfl (by decide) (by omega) v104 ([] : List (S50)) l0 _ _ _ (fun _ => True) (fun _ => False) rfl rfl ?aO ?aR ?aM (fun _ h => h.elim) ?aF ?aB ?aS ?aL ?_; (case aR => exact Kd.C_below HR.out HB2.out); (case aM => intro x cs h; obtain rfl := k50_open h; exact k50_mkM _ _ _ x); (case aO => exact HO.out); (case aF => exact (fun _ _ => trivial)); (case aB => exact HB2.out); (case aS => exact HB2.out.size); (case aL => have := LM.out; simp only [List.length_nil]; omega); intro v3 w3 ho3 hb3 hg3 hn3; have HO2 := Aside0.mk ho3; have HB3 := Aside0.mk hb3; clear ho3 hb3 hg3 hn3))
  go_ret
  exact ⟨_, rfl, HO2.out, HB3.out⟩
set_option maxHeartbeats 4000000 in
set_option maxRecDepth 100000 in
/-- slices.Insert at the end of a row of one's own. -/
theorem refs_set.insert_end (A0 : Option Addr) (c0 : Nat) (l0 : List (S50)) (vb : Nat) (x : S50) (w : World) (base : Nat) (hR : Kd.R k50 50 w base (fun _ => True) (.slice A0 l0.length c0) l0) (hV : Kd.C k50 w (some ⟨vb, 0, none⟩) 1 [x]) (hb : base ≤ w.heap.size) (h1 : l0.length ≤ 100000) :
 Calls Try.prog 42 #[.slice A0 l0.length c0, .int .i64 (l0.length : Int), .slice (some ⟨vb, 0, none⟩) 1 1] w fun e w' => ∃ v0_ : Value, e = .returned (v0_) ∧ Kd.R k50 50 w' base (fun _ => True) v0_ (l0 ++ [x]) ∧ Below base w w' := by
 have HR := Aside0.mk hR
 have HV := Aside0.mk hV
 have LM := Aside0.mk h1
 have HBS := Aside0.mk hb
 obtain ⟨i0, hi0, _, hsz0, _⟩ := info_parts refs_set.info
 obtain ⟨A1, n1, c1, hcut⟩ : ∃ A1 n1 c1, ∀ W : World, (Instr.slice 22 (.slice A0 l0.length c0) (some (.int .i64 (l0.length : Int))) none none).run Try.prog W = .ok (.slice A1 n1 c1) W := ⟨_, _, _, cut_from 22 50 .i64 Try.underlying22 hi0 2 hsz0 A0 l0.length c0 (l0.length : Int) (by omega) (by omega)⟩
 clear hR hV h1 hb hi0
 go_enter Try.func42, Try.ntmps42
 go_wp2_with (first | ((with_reducible refine gate_builtin (b := .append) (xs := #[.tmp 23, .tmp 24]) rfl ?_); at_builtin; refine Kd.R_append_rows k50 (Rr := Kd.K k50 w) (w0 := w) base rfl (.tmp 23) (.tmp 24) 22 50 (.agg #[.string ⟨#[]⟩, .string ⟨#[]⟩]) 32 rfl Try.underlying22 refs_set.info rfl (by decide) (by omega) (.slice A0 l0.length c0) l0 [x] _ _ _ (fun _ => True) (fun _ => False) rfl rfl ?aO ?aR ?aM (fun _ h => h.elim) ?aF ?aB ?aS ?aL ?_; (case aR => exact HV.out); (case aM => intro x cs h; obtain rfl := k50_open h; exact k50_mkM _ _ _ x); (case aO => exact HR.out); (case aF => exact (fun _ _ => trivial)); (case aB => exact Below.refl _ _); (case aS => exact HBS.out); (case aL => have := LM.out; omega); intro v3 w3 ho3 hb3 hg3 hn3; have HO2 := Aside0.mk ho3; have HB3 := Aside0.mk hb3; clear ho3 hb3 hg3 hn3))
 go_ret
 exact ⟨_, rfl, HO2.out, HB3.out⟩
section
variable (g c i n vb : Nat)
theorem refs_set.cutF {A : Addr} (n c : Nat) (j : Nat) (hj : j ≤ n) (hc : j < c) (x : Int) (hx : x = (j : Int)) : ∀ W : World, (Instr.slice 22 (.slice (some A) n c) (some (.int .i64 x)) none none).run Try.prog W = .ok (.slice (some (A.add (j * 2))) (n - j) (c - j)) W := by
 intro W
 obtain ⟨i0, hi0, _, hsz0, _⟩ := info_parts refs_set.info
 have h := cut_from (P := Try.prog) 22 50 .i64 Try.underlying22 hi0 2 hsz0 (some A) n c x (by omega) (by omega) W
 have e : x.toNat = j := by omega
 rw [e, if_neg (by omega)] at h
 exact h
theorem refs_set.cutT {A : Addr} (n c : Nat) (j : Nat) (hc : j ≤ c) (x : Int) (hx : x = (j : Int)) : ∀ W : World, (Instr.slice 22 (.slice (some A) n c) none (some (.int .i64 x)) none).run Try.prog W = .ok (.slice (some A) j c) W := by
 intro W
 obtain ⟨i0, hi0, _, hsz0, _⟩ := info_parts refs_set.info
 have hel : Try.prog.elem 22 = 50 := by simp [Program.elem, Try.underlying22]
 have hu : Try.prog.underlying 22 = some (.slice (Try.prog.elem 22)) := by rw [hel]; exact Try.underlying22
 rw [run_slice_h W 22 (some A) n c hu .i64 x (by omega) (by omega), hel]
 have e : x.toNat = j := by omega
 simp [sizeOf, typeInfo, hi0, sliced, Result.andThen, e, Addr.add]
 try (cases A; simp [Addr.add])
end
theorem refs_set.add_lit (g o j : Nat) : (⟨g, o, none⟩ : Addr).add j = ⟨g, o + j, none⟩ := by unfold Addr.add; split <;> simp_all
set_option maxHeartbeats 4000000 in
set_option maxRecDepth 100000 in
/-- slices.Insert within a row where there is room. -/
theorem refs_set.shift (g c i n vb : Nat) (l : List (S50)) (x : S50) (w : World) (hi : i < n) (hn : l.length = n) (hroom : n + 1 ≤ c) (h1 : n ≤ 100000) (hvb : vb ≠ g) (cur : Array Value) (hh : w.heap[g]? = some (.cells cur 50 (0, 0))) (hs : cur.size = c * 2) (hm : c ≤ maxLen)
 (hcs : ∀ j v, (refs_set.flat l)[j]? = some v → w.cell? ⟨g, j, none⟩ = some v) (hV : w.heap[vb]? = some (.cells #[.string x.f0, .string x.f1] 50 (0, 0))) :
 Calls Try.prog 42 #[.slice (some ⟨g, 0, none⟩) n c, .int .i64 (i : Int), .slice (some ⟨vb, 0, none⟩) 1 1] w fun e w' =>
  e = .returned (.slice (some ⟨g, 0, none⟩) (n + 1) c) ∧ w' = (w.drew.setCells g ((i + 1) * 2) (refs_set.flat (l.drop i))).setCells g (i * 2) [.string x.f0, .string x.f1] := by
 obtain ⟨i0, hi0, hz0, hsz0, _⟩ := info_parts refs_set.info
 have hc63 : c ≤ 9223372036854775807 := hm
 have mixed : Try.prog.follows Departure.mixedOrders = true := by kernel_rfl
 have hz : ∀ w, (Go.sizeOf 50).run Try.prog w = .ok 2 w := fun w => by simp [sizeOf, typeInfo, hi0, hsz0]
 have hcut1 := refs_set.cutF (A := ⟨g, 0, none⟩) n c i (by omega) (by omega) (i : Int) rfl
 have hcut2 := refs_set.cutT (A := ⟨g, 0, none⟩) n c (n + 1) hroom ((n : Int) + 1) (by omega)
 have hcut3 := refs_set.cutF (A := ⟨g, 0, none⟩) (n + 1) c (i + 1) (by omega) (by omega) ((i : Int) + 1) (by omega)
 have hcut4 := refs_set.cutF (A := ⟨g, 0, none⟩) (n + 1) c i (by omega) (by omega) (i : Int) rfl
 rw [refs_set.add_lit, Nat.zero_add] at hcut1 hcut3 hcut4
 have hov : ∀ lb cb, (callFunc 53 #[.slice (some ⟨vb, 0, none⟩) 1 1, .slice (some ⟨g, (i + 1) * 2, none⟩) lb cb]).run Try.prog w = .ok (.value (.bool false)) w := fun lb cb => by
  rw [run_callFunc_extern Try.func53 (by kernel_rfl) (by kernel_rfl) (by kernel_rfl) (e := Extern.SlicesOverlaps.overlaps #[22, 22] #[4]) (by kernel_rfl),
   Lib.run_overlaps_apart w 22 4 50 Try.underlying22 2 hz ⟨vb, 0, none⟩ ⟨g, (i + 1) * 2, none⟩ 1 1 lb cb hvb 50 50 2 (c * 2) (by simp [World.shape?, hV]) (by simp [World.shape?, hh, hs]) (by omega) (by simp [World.frozen?, hV]) (by simp [World.frozen?, hV])]
  rfl
 have hdl : (refs_set.flat (l.drop i)).length = (n - i) * 2 := by rw [refs_set.flat_len, List.length_drop, hn]
 have hsp : ∀ j, j < c * 2 → (w.cell? ⟨g, j, none⟩).isSome = true := fun j hj => by
  rw [cell_of_row w g j cur _ (0, 0) hh, Array.getElem?_eq_getElem (by omega)]; rfl
 have hfz : ∀ j, w.frozen? ⟨g, j, none⟩ = false := fun j => by simp [World.frozen?, hh]
 have hcp1 : ∀ ty dc sc, (Builtin.copy_ #[22, 22] ty #[.slice (some ⟨g, (i + 1) * 2, none⟩) (n + 1 - (i + 1)) dc, .slice (some ⟨g, i * 2, none⟩) (n + 1 - i) sc]).run Try.prog w.drew = .ok (goInt (Nat.min (n + 1 - i) (n + 1 - (i + 1)))) (w.drew.setCells g ((i + 1) * 2) (refs_set.flat (l.drop i))) := fun ty dc sc =>
  refs_set.copy w.drew ty g ((i + 1) * 2) (n + 1 - (i + 1)) dc ⟨g, i * 2, none⟩ (n + 1 - i) sc _ (by rw [hdl]; simp only [Nat.min_def]; split <;> omega)
   (fun j v hj => by
    rw [refs_set.add_lit]
    refine hcs (i * 2 + j) v ?_
    rw [← refs_set.flat_drop, List.getElem?_drop] at hj
    exact hj)
   (fun j hj => hsp _ (by omega)) (fun j hj => hfz _) (refs_set.flat_one _)
 obtain ⟨W1, hW1⟩ : ∃ W1, W1 = w.drew.setCells g ((i + 1) * 2) (refs_set.flat (l.drop i)) := ⟨_, rfl⟩
 obtain ⟨cur1, hh1, hs1⟩ := refs_set.setCells_heap g _ (refs_set.flat (l.drop i)) ((i + 1) * 2) w.drew cur hh
 rw [← hW1] at hh1
 have hcp2 : ∀ (W : World), (∀ x, W.cell? x = W1.cell? x) → (∀ x, W.frozen? x = W1.frozen? x) → ∀ ty dc, (Builtin.copy_ #[22, 22] ty #[.slice (some ⟨g, i * 2, none⟩) (n + 1 - i) dc, .slice (some ⟨vb, 0, none⟩) 1 1]).run Try.prog W = .ok (goInt (Nat.min 1 (n + 1 - i))) (W.setCells g (i * 2) [.string x.f0, .string x.f1]) := fun W hWc hWf ty dc =>
  refs_set.copy W ty g (i * 2) (n + 1 - i) dc ⟨vb, 0, none⟩ 1 1 _ (by simp only [Nat.min_def, List.length_cons, List.length_nil]; split <;> omega)
   (fun j v hj => by
    rw [refs_set.add_lit, hWc, hW1, World.cell?_setCells_out g _ _ _ _ (fun h _ => absurd h hvb)]
    show w.cell? ⟨vb, 0 + j, none⟩ = some v
    rw [Nat.zero_add, cell_of_row w vb j _ _ (0, 0) hV]
    simpa using hj)
   (fun j hj => by
    rw [hWc, cell_of_row W1 g _ cur1 _ (0, 0) hh1, Array.getElem?_eq_getElem (by simp only [List.length_cons, List.length_nil] at hj; omega)]; rfl)
   (fun j hj => by rw [hWf]; simp [World.frozen?, hh1]) (fun v hv => by simp only [List.mem_cons, List.not_mem_nil, or_false] at hv; rcases hv with rfl | rfl <;> rfl)
 rw [← hW1] at hcp1
 have hw1 : IntKind.i64.wrap ((i : Int) + 1) = (i : Int) + 1 := by rw [IntKind.wrap_i64]; omega
 have hw2 : IntKind.i64.wrap ((n : Int) + 1) = (n : Int) + 1 := by rw [IntKind.wrap_i64]; omega
 have hz2 : ((i : Int) == (n : Int)) = false := beq_eq_false_iff_ne.mpr (by omega)
 have hz2b : ¬ ((i : Int) = (n : Int)) := by omega
 have hz3 : decide ((c : Int) < (n : Int) + 1) = false := decide_eq_false (by omega)
 have hz3b : ¬ ((c : Int) < (n : Int) + 1) := by omega
 clear hz hsp hfz hcs hh1 hs1 hm hdl
 go_enter Try.func42, Try.ntmps42
 go_wp2_with (simp only [hov])
 go_region_law_o (refine step_copy_runI rfl _ _ 22 22 rfl (.slice (some ⟨g, (i + 1) * 2, none⟩) (n + 1 - (i + 1)) (c - (i + 1))) (.slice (some ⟨g, i * 2, none⟩) (n + 1 - i) (c - i)) (by simp [Act.eval, Act.put]) (by simp [Act.eval, Act.put]) (hcp1 _ _ _) ?_)
 go_wp2_with (at_builtin; refine wpList_copy_runI _ rfl _ _ 22 22 rfl _ _ rfl rfl (hcp2 _ (fun _ => rfl) (fun _ => rfl) _ _) ?_)
 go_ret
 exact ⟨rfl, rfl⟩
set_option maxHeartbeats 4000000 in
set_option maxRecDepth 100000 in
/-- slices.Insert within a row where there is no room. -/
theorem refs_set.grow (g c i n vb : Nat) (l : List (S50)) (x : S50) (w : World) (hi : i < n) (hn : l.length = n) (hnc : n ≤ c) (hroom : c < n + 1) (h1 : n ≤ 100000) (hgw : g < w.heap.size)
 (hcs : ∀ j v, (refs_set.flat l)[j]? = some v → w.cell? ⟨g, j, none⟩ = some v) (hV : w.heap[vb]? = some (.cells #[.string x.f0, .string x.f1] 50 (0, 0))) :
 Calls Try.prog 42 #[.slice (some ⟨g, 0, none⟩) n c, .int .i64 (i : Int), .slice (some ⟨vb, 0, none⟩) 1 1] w fun e w' =>
  e = .returned (.slice (some ⟨w.heap.size, 0, none⟩) (n + 1) (grownCap w (n + 1) c 50)) ∧
  w' = (((w.alloc (.cells ((refs_set.flat (l.take i)).toArray ++ Builtin.zeroCells (Value.agg #[.string ⟨#[]⟩, .string ⟨#[]⟩]).cells (n + 1 - i) ++ Builtin.zeroCells (Value.agg #[.string ⟨#[]⟩, .string ⟨#[]⟩]).cells (grownCap w (n + 1) c 50 - (n + 1))) 50)).drew.setCells w.heap.size (i * 2) [.string x.f0, .string x.f1]).drew).setCells w.heap.size ((i + 1) * 2) (refs_set.flat (l.drop i)) := by
 obtain ⟨i0, hi0, hz0, hsz0, hzb⟩ := info_parts refs_set.info
 have mixed : Try.prog.follows Departure.mixedOrders = true := by kernel_rfl
 have hvw : vb < w.heap.size := blk_lt hV
 have ft := refs_set.flat_len (l.take i)
 rw [List.length_take] at ft
 have hdl : (refs_set.flat (l.drop i)).length = (n - i) * 2 := by rw [refs_set.flat_len, List.length_drop, hn]
 have hold : (Builtin.firstCells i0.size i (.slice (some ⟨g, 0, none⟩) i c)).run Try.prog w.drew = .ok (refs_set.flat (l.take i)).toArray w.drew := by
  rw [hsz0]
  exact run_firstCells_some (P := Try.prog) (w := w.drew) 2 i ⟨g, 0, none⟩ i c (refs_set.flat (l.take i)) (by simp only [Nat.min_def] at ft; split at ft <;> omega) (fun j v hj => by
   rw [refs_set.add_lit, Nat.zero_add]
   rw [← refs_set.flat_take, List.getElem?_take] at hj
   split at hj
   · exact hcs j v hj
   · cases hj)
 have hik : i + (n + 1 - i) = n + 1 := by omega
 have hkk : (n : Int) + 1 - (i : Int) = ((n + 1 - i : Nat) : Int) := by omega
 have hrz : ∀ ty, (Builtin.append_ #[22, 3] ty #[.slice (some ⟨g, 0, none⟩) i c, .int .i64 ((n : Int) + 1 - (i : Int))]).run Try.prog w =
  .ok (.slice (some ⟨w.heap.size, 0, none⟩) (n + 1) (grownCap w (n + 1) c 50)) (w.drew.alloc (.cells ((refs_set.flat (l.take i)).toArray ++ Builtin.zeroCells (Value.agg #[.string ⟨#[]⟩, .string ⟨#[]⟩]).cells (n + 1 - i) ++ Builtin.zeroCells (Value.agg #[.string ⟨#[]⟩, .string ⟨#[]⟩]).cells (grownCap w (n + 1) c 50 - (n + 1))) 50)) := fun ty => by
  have h := Lib.run_append_grow_zeros w 22 3 ty 50 i0 _ .i64 .i64 Try.underlying22 Try.underlying3 hi0 hz0 (some ⟨g, 0, none⟩) i c (refs_set.flat (l.take i)) hold (n + 1 - i) (by omega) (by omega) (by omega) (by omega) (by rw [hzb]; omega) (by rw [hzb, hik]; exact growslice_fits hroom (by omega))
  rw [hik] at h
  rw [hkk]
  exact h
 obtain ⟨G, hG⟩ : ∃ G, G = grownCap w (n + 1) c 50 := ⟨_, rfl⟩
 obtain ⟨ROW, hROW⟩ : ∃ ROW : Array Value, ROW = (refs_set.flat (l.take i)).toArray ++ Builtin.zeroCells (Value.agg #[.string ⟨#[]⟩, .string ⟨#[]⟩]).cells (n + 1 - i) ++ Builtin.zeroCells (Value.agg #[.string ⟨#[]⟩, .string ⟨#[]⟩]).cells (G - (n + 1)) := ⟨_, rfl⟩
 rw [← hG] at hrz ⊢
 rw [← hROW] at hrz ⊢
 have hRl : (n + 1) * 2 ≤ ROW.size := by
  rw [hROW]
  simp [Builtin.zeroCells, Value.cells]
  simp only [Nat.min_def] at ft
  split at ft <;> omega
 obtain ⟨W1, hW1⟩ : ∃ W1, W1 = w.drew.alloc (.cells ROW 50) := ⟨_, rfl⟩
 rw [← hW1] at hrz
 have hh1 : W1.heap[w.heap.size]? = some (.cells ROW 50 (0, 0)) := by rw [hW1]; exact blk_new w.drew _
 have hOb : ∀ b j v, b < w.heap.size → w.cell? ⟨b, j, none⟩ = some v → W1.cell? ⟨b, j, none⟩ = some v := fun b j v hb h => by rw [hW1, World.cell?_alloc_past (w := w.drew) _ b j hb]; exact h
 have hcpA : ∀ (W : World), (∀ x, W.cell? x = W1.cell? x) → (∀ x, W.frozen? x = W1.frozen? x) → ∀ ty dc, (Builtin.copy_ #[22, 22] ty #[.slice (some ⟨w.heap.size, i * 2, none⟩) (n + 1 - i) dc, .slice (some ⟨vb, 0, none⟩) 1 1]).run Try.prog W = .ok (goInt (Nat.min 1 (n + 1 - i))) (W.setCells w.heap.size (i * 2) [.string x.f0, .string x.f1]) := fun W hWc hWf ty dc =>
  refs_set.copy W ty w.heap.size (i * 2) (n + 1 - i) dc ⟨vb, 0, none⟩ 1 1 _ (by simp only [Nat.min_def, List.length_cons, List.length_nil]; split <;> omega)
   (fun j v hj => by
    rw [refs_set.add_lit, hWc, Nat.zero_add]
    refine hOb vb j v hvw ?_
    rw [cell_of_row w vb j _ _ (0, 0) hV]
    simpa using hj)
   (fun j hj => by
    rw [hWc, cell_of_row W1 _ _ ROW _ (0, 0) hh1, Array.getElem?_eq_getElem (by simp only [List.length_cons, List.length_nil] at hj; omega)]; rfl)
   (fun j hj => by rw [hWf]; simp [World.frozen?, hh1]) (fun v hv => by simp only [List.mem_cons, List.not_mem_nil, or_false] at hv; rcases hv with rfl | rfl <;> rfl)
 obtain ⟨cur2, hh2, hs2⟩ := refs_set.setCells_heap w.heap.size _ [.string x.f0, .string x.f1] (i * 2) W1 ROW hh1
 have hcpB : ∀ (W : World), (∀ y, W.cell? y = (W1.setCells w.heap.size (i * 2) [.string x.f0, .string x.f1]).cell? y) → (∀ y, W.frozen? y = (W1.setCells w.heap.size (i * 2) [.string x.f0, .string x.f1]).frozen? y) → ∀ ty dc sc, (Builtin.copy_ #[22, 22] ty #[.slice (some ⟨w.heap.size, (i + 1) * 2, none⟩) (n + 1 - (i + 1)) dc, .slice (some ⟨g, i * 2, none⟩) (n - i) sc]).run Try.prog W = .ok (goInt (Nat.min (n - i) (n + 1 - (i + 1)))) (W.setCells w.heap.size ((i + 1) * 2) (refs_set.flat (l.drop i))) := fun W hWc hWf ty dc sc =>
  refs_set.copy W ty w.heap.size ((i + 1) * 2) (n + 1 - (i + 1)) dc ⟨g, i * 2, none⟩ (n - i) sc _ (by rw [hdl]; simp only [Nat.min_def]; split <;> omega)
   (fun j v hj => by
    rw [refs_set.add_lit, hWc, World.cell?_setCells_out _ _ _ _ _ (fun h _ => absurd h (by show g ≠ w.heap.size; omega))]
    refine hOb g _ v hgw (hcs _ v ?_)
    rw [← refs_set.flat_drop, List.getElem?_drop] at hj
    exact hj)
   (fun j hj => by
    rw [hWc, cell_of_row _ _ _ cur2 _ (0, 0) hh2, Array.getElem?_eq_getElem (by omega)]; rfl)
   (fun j hj => by rw [hWf]; simp [World.frozen?, hh2]) (refs_set.flat_one _)
 have hGn : n + 1 ≤ G := by rw [hG]; exact grownCap_ge w _ _ _
 have hG63 : G ≤ 9223372036854775807 := by
  have := grownCap_le_maxLen w (n + 1) c 50 (by unfold maxLen; omega)
  rw [← hG] at this
  exact this
 subst hW1
 have hE1 : ∀ y, ((w.alloc (.cells ROW 50)).drew).cell? y = (w.drew.alloc (.cells ROW 50)).cell? y := fun y => rfl
 have hE2 : ∀ y, ((w.alloc (.cells ROW 50)).drew).frozen? y = (w.drew.alloc (.cells ROW 50)).frozen? y := fun y => rfl
 have hF1 : ∀ y, (((w.alloc (.cells ROW 50)).drew.setCells w.heap.size (i * 2) [.string x.f0, .string x.f1]).drew).cell? y = ((w.drew.alloc (.cells ROW 50)).setCells w.heap.size (i * 2) [.string x.f0, .string x.f1]).cell? y := fun y => rfl
 have hF2 : ∀ y, (((w.alloc (.cells ROW 50)).drew.setCells w.heap.size (i * 2) [.string x.f0, .string x.f1]).drew).frozen? y = ((w.drew.alloc (.cells ROW 50)).setCells w.heap.size (i * 2) [.string x.f0, .string x.f1]).frozen? y := fun y => rfl
 have hw1 : IntKind.i64.wrap ((i : Int) + 1) = (i : Int) + 1 := by rw [IntKind.wrap_i64]; omega
 have hw2 : IntKind.i64.wrap ((n : Int) + 1) = (n : Int) + 1 := by rw [IntKind.wrap_i64]; omega
 have hw3 : IntKind.i64.wrap ((n : Int) + 1 - (i : Int)) = (n : Int) + 1 - (i : Int) := by rw [IntKind.wrap_i64]; omega
 have hz2 : ((i : Int) == (n : Int)) = false := beq_eq_false_iff_ne.mpr (by omega)
 have hz2b : ¬ ((i : Int) = (n : Int)) := by omega
 have hz3 : decide ((c : Int) < (n : Int) + 1) = true := decide_eq_true (by omega)
 have hz3b : (c : Int) < (n : Int) + 1 := by omega
 have hcut1 := refs_set.cutF (A := ⟨g, 0, none⟩) n c i (by omega) (by omega) (i : Int) rfl
 have hcut2 := refs_set.cutT (A := ⟨g, 0, none⟩) n c i (by omega) (i : Int) rfl
 have hcut3 := refs_set.cutF (A := ⟨w.heap.size, 0, none⟩) (n + 1) G i (by omega) (by omega) (i : Int) rfl
 have hcut4 := refs_set.cutF (A := ⟨w.heap.size, 0, none⟩) (n + 1) G (i + 1) (by omega) (by omega) ((i : Int) + 1) (by omega)
 rw [refs_set.add_lit, Nat.zero_add] at hcut1 hcut3 hcut4
 clear hkk hik hold hROW hG hRl hh1 hh2 hs2 hdl ft hcs hOb
 go_enter Try.func42, Try.ntmps42
 go_wp2_with (first
  | (at_builtin; refine Lib.wpList_append_run _ rfl _ _ _ _ rfl _ _ rfl rfl _ _ (hrz _) ?_)
  | (at_builtin; refine wpList_copy_runI _ rfl _ _ 22 22 rfl _ _ rfl rfl (hcpA _ hE1 hE2 _ _) ?_))
 go_region_law_o (refine step_copy_runI rfl _ _ 22 22 rfl (.slice (some ⟨w.heap.size, (i + 1) * 2, none⟩) (n + 1 - (i + 1)) (G - (i + 1))) (.slice (some ⟨g, i * 2, none⟩) (n - i) (c - i)) (by simp [Act.eval, Act.put]) (by simp [Act.eval, Act.put]) (hcpB _ hF1 hF2 _ _ _) ?_)
 go_wp2
 go_ret
 exact ⟨rfl, rfl⟩
theorem refs_set.three {W : World} {g i : Nat} {l : List (S50)} {x : S50} (hi : i ≤ l.length) (ha : ∀ j v, j < i * 2 → (refs_set.flat l)[j]? = some v → W.cell? ⟨g, j, none⟩ = some v)
 (hb : ∀ j v, [Value.string x.f0, Value.string x.f1][j]? = some v → W.cell? ⟨g, i * 2 + j, none⟩ = some v) (hc : ∀ j v, (refs_set.flat (l.drop i))[j]? = some v → W.cell? ⟨g, (i + 1) * 2 + j, none⟩ = some v) :
 ∀ j v, (refs_set.flat (l.take i ++ x :: l.drop i))[j]? = some v → W.cell? ⟨g, j, none⟩ = some v := by
 intro j v hj
 have ft : (refs_set.flat (l.take i)).length = i * 2 := by rw [refs_set.flat_len, List.length_take]; congr 1; omega
 rw [refs_set.flat_app] at hj
 by_cases h1 : j < i * 2
 · rw [List.getElem?_append_left (by omega)] at hj
   refine ha j v h1 ?_
   rw [← refs_set.flat_take, List.getElem?_take, if_pos h1] at hj
   exact hj
 · rw [List.getElem?_append_right (by omega), ft] at hj
   have hj2 : ([Value.string x.f0, Value.string x.f1] ++ refs_set.flat (l.drop i))[j - i * 2]? = some v := hj
   by_cases h2 : j - i * 2 < 2
   · rw [List.getElem?_append_left (by simpa using h2)] at hj2
     have := hb _ v hj2
     rwa [show i * 2 + (j - i * 2) = j by omega] at this
   · rw [List.getElem?_append_right (by simpa using Nat.le_of_not_lt h2)] at hj2
     have := hc _ v hj2
     rwa [show (i + 1) * 2 + (j - i * 2 - [Value.string x.f0, Value.string x.f1].length) = j by simp only [List.length_cons, List.length_nil]; omega] at this
/-- A row of one ref, by its block. -/
theorem refs_set.oneC {w : World} {vb : Nat} {x : S50} (h : w.heap[vb]? = some (.cells #[.string x.f0, .string x.f1] 50 (0, 0))) : Kd.C k50 w (some ⟨vb, 0, none⟩) 1 [x] := by
 refine ⟨rfl, by decide, fun _ => ⟨⟨vb, 0, none⟩, rfl, fun j p hj => ?_⟩⟩
 obtain ⟨hl, hp⟩ := List.getElem?_eq_some_iff.1 hj
 have h0 : j = 0 := by simp only [List.length_cons, List.length_nil] at hl; omega
 subst h0
 have hp2 : x = p := hp
 subst hp2
 refine ⟨[.string x.f0, .string x.f1], rfl, k50_mk w x, fun i u hu => ?_⟩
 rw [refs_set.add_lit, cell_of_row w vb _ _ _ (0, 0) h, Nat.zero_mul, Nat.zero_add, Nat.zero_add]
 simpa using hu
/-- slices.Insert of one ref into a row of one's own. -/
theorem refs_set.insert (A0 : Option Addr) (c0 : Nat) (l0 : List (S50)) (i vb : Nat) (x : S50) (w : World) (base : Nat) (hR : Kd.R k50 50 w base (fun _ => True) (.slice A0 l0.length c0) l0) (hV : w.heap[vb]? = some (.cells #[.string x.f0, .string x.f1] 50 (0, 0))) (hne : ∀ k, (Value.slice A0 l0.length c0).ownBlock = some k → vb ≠ k) (hb : base ≤ w.heap.size) (h1 : l0.length ≤ 100000) (hi : i ≤ l0.length) :
 Calls Try.prog 42 #[.slice A0 l0.length c0, .int .i64 (i : Int), .slice (some ⟨vb, 0, none⟩) 1 1] w fun e w' => ∃ v0_ : Value, e = .returned (v0_) ∧ Kd.R k50 50 w' base (fun _ => True) v0_ (l0.take i ++ x :: l0.drop i) ∧ Below base w w' := by
 by_cases hlt : i < l0.length
 ·
  obtain ⟨_, inner, ho, hr⟩ := hR
  have hin : inner = refs_set.flat l0 := refs_set.inner_flat hr
  subst hin
  rcases ho.2 with ⟨he, h0⟩ | ⟨g, cap, cur, he, hbg, hh, hnc, hm, hs, ht⟩
  · omega
  ·
   injection he with e1 _ e3
   subst e1
   subst e3
   have hs : cur.size = c0 * 2 := hs
   have hcs : ∀ j v, (refs_set.flat l0)[j]? = some v → w.cell? ⟨g, j, none⟩ = some v := fun j v hj => by
    rw [cell_of_row w g j cur _ (0, 0) hh, ← Array.getElem?_toList]
    have hlj : j < l0.length * 2 := by
     have := (List.getElem?_eq_some_iff.1 hj).1
     rw [refs_set.flat_len] at this
     exact this
    have ht : cur.toList.take (l0.length * 2) = refs_set.flat l0 := ht
    rw [← ht, List.getElem?_take, if_pos hlj] at hj
    exact hj
   have hvb : vb ≠ g := hne g rfl
   have hm63 : c0 ≤ maxLen := hm
   have hlen : (l0.take i ++ x :: l0.drop i).length = l0.length + 1 := by rw [List.length_append, List.length_cons, List.length_take, List.length_drop]; simp only [Nat.min_def]; split <;> omega
   have fd : (refs_set.flat (l0.drop i)).length = (l0.length - i) * 2 := by rw [refs_set.flat_len, List.length_drop]
   by_cases hroom : l0.length + 1 ≤ c0
   ·
    refine (refs_set.shift g c0 i l0.length vb l0 x w hlt rfl hroom h1 hvb cur hh hs hm63 hcs hV).mono ?_
    rintro e w' ⟨rfl, rfl⟩
    obtain ⟨cur1, hh1, hs1⟩ := refs_set.setCells_heap g _ (refs_set.flat (l0.drop i)) ((i + 1) * 2) w.drew cur hh
    obtain ⟨cur2, hh2, hs2⟩ := refs_set.setCells_heap g _ [.string x.f0, .string x.f1] (i * 2) _ cur1 hh1
    have hsp : ∀ j, j < c0 * 2 → (w.drew.cell? ⟨g, j, none⟩).isSome = true := fun j hj => by
     rw [cell_of_row w.drew g j cur _ (0, 0) hh, Array.getElem?_eq_getElem (by omega)]; rfl
    have hsp1 : ∀ j, j < c0 * 2 → ((w.drew.setCells g ((i + 1) * 2) (refs_set.flat (l0.drop i))).cell? ⟨g, j, none⟩).isSome = true := fun j hj => by
     rw [cell_of_row _ g j cur1 _ (0, 0) hh1, Array.getElem?_eq_getElem (by omega)]; rfl
    refine ⟨_, rfl, ?_, refs_set.below_setCells g hbg _ _ _ (refs_set.below_setCells g hbg _ _ _ (below_drew1 (Below.refl base w)))⟩
    refine refs_set.own _ base g (l0.length + 1) c0 cur2 _ hbg hh2 (by omega) hlen hroom hm63 (refs_set.three (by omega) ?_ ?_ ?_)
    · intro j v hj hv
      rw [World.cell?_setCells_out g _ _ _ _ (fun _ _ => .inl (show j < i * 2 from hj)), World.cell?_setCells_out g _ _ _ _ (fun _ _ => .inl (show j < (i + 1) * 2 by omega))]
      exact hcs j v hv
    · intro j v hj
      have hj2 := (List.getElem?_eq_some_iff.1 hj)
      obtain ⟨hjl, hjv⟩ := hj2
      rw [World.cell?_setCells_in g [.string x.f0, .string x.f1] (i * 2) _ (fun k hk => hsp1 _ (by simp only [List.length_cons, List.length_nil] at hk; omega)) j hjl, hjv]
    · intro j v hj
      obtain ⟨hjl, hjv⟩ := List.getElem?_eq_some_iff.1 hj
      rw [World.cell?_setCells_out g [.string x.f0, .string x.f1] _ _ _ (fun _ _ => .inr (show i * 2 + 2 ≤ (i + 1) * 2 + j by omega)), World.cell?_setCells_in g (refs_set.flat (l0.drop i)) ((i + 1) * 2) _ (fun k hk => hsp _ (by omega)) j hjl, hjv]
   ·
    have hgw : g < w.heap.size := blk_lt hh
    refine (refs_set.grow g c0 i l0.length vb l0 x w hlt rfl hnc (by omega) h1 hgw hcs hV).mono ?_
    rintro e w' ⟨rfl, rfl⟩
    generalize hG : grownCap w (l0.length + 1) c0 50 = G
    have hGn : l0.length + 1 ≤ G := by rw [← hG]; exact grownCap_ge w _ _ _
    have hG63 : G ≤ maxLen := by rw [← hG]; exact grownCap_le_maxLen w (l0.length + 1) c0 _ (by unfold maxLen; omega)
    have ft : (refs_set.flat (l0.take i)).length = i * 2 := by rw [refs_set.flat_len, List.length_take]; congr 1; omega
    obtain ⟨ROW, hROW⟩ : ∃ ROW : Array Value, ROW = (refs_set.flat (l0.take i)).toArray ++ Builtin.zeroCells (Value.agg #[.string ⟨#[]⟩, .string ⟨#[]⟩]).cells (l0.length + 1 - i) ++ Builtin.zeroCells (Value.agg #[.string ⟨#[]⟩, .string ⟨#[]⟩]).cells (G - (l0.length + 1)) := ⟨_, rfl⟩
    have hRs : ROW.size = G * 2 := by
     rw [hROW]
     simp [Builtin.zeroCells, Value.cells, ft]
     omega
    have hRt : ∀ j v, j < i * 2 → (refs_set.flat l0)[j]? = some v → ROW[j]? = some v := fun j v hj hv => by
     rw [← refs_set.flat_take, ] at ft
     rw [hROW, Array.append_assoc, Array.getElem?_append_left (by simp only [List.size_toArray]; rw [← refs_set.flat_take]; omega)]
     rw [List.getElem?_toArray, ← refs_set.flat_take, List.getElem?_take, if_pos hj]
     exact hv
    rw [← hROW]
    have hh1 : ((w.alloc (.cells ROW 50)).drew).heap[w.heap.size]? = some (.cells ROW 50 (0, 0)) := blk_new w _
    obtain ⟨cur1, hh2, hs2⟩ := refs_set.setCells_heap w.heap.size _ [.string x.f0, .string x.f1] (i * 2) _ ROW hh1
    obtain ⟨cur2, hh3, hs3⟩ := refs_set.setCells_heap w.heap.size _ (refs_set.flat (l0.drop i)) ((i + 1) * 2) (((w.alloc (.cells ROW 50)).drew.setCells w.heap.size (i * 2) [.string x.f0, .string x.f1]).drew) cur1 hh2
    have hsp : ∀ j, j < G * 2 → (((w.alloc (.cells ROW 50)).drew).cell? ⟨w.heap.size, j, none⟩).isSome = true := fun j hj => by
     rw [cell_of_row _ w.heap.size j ROW _ (0, 0) hh1, Array.getElem?_eq_getElem (by omega)]; rfl
    have hsp1 : ∀ j, j < G * 2 → ((((w.alloc (.cells ROW 50)).drew.setCells w.heap.size (i * 2) [.string x.f0, .string x.f1]).drew).cell? ⟨w.heap.size, j, none⟩).isSome = true := fun j hj => by
     show (((w.alloc (.cells ROW 50)).drew.setCells w.heap.size (i * 2) [.string x.f0, .string x.f1]).cell? ⟨w.heap.size, j, none⟩).isSome = true
     rw [cell_of_row _ w.heap.size j cur1 _ (0, 0) hh2, Array.getElem?_eq_getElem (by omega)]; rfl
    refine ⟨_, rfl, ?_, refs_set.below_setCells w.heap.size hb _ _ _ (below_drew1 (refs_set.below_setCells w.heap.size hb _ _ _ (below_drew1 ((Below.refl base w).alloc hb _))))⟩
    refine refs_set.own _ base w.heap.size (l0.length + 1) G cur2 _ hb hh3 (by omega) hlen hGn hG63 (refs_set.three (by omega) ?_ ?_ ?_)
    · intro j v hj hv
      rw [World.cell?_setCells_out _ _ _ _ _ (fun _ _ => .inl (show j < (i + 1) * 2 by omega))]
      show ((w.alloc (.cells ROW 50)).drew.setCells w.heap.size (i * 2) [.string x.f0, .string x.f1]).cell? _ = _
      rw [World.cell?_setCells_out _ _ _ _ _ (fun _ _ => .inl (show j < i * 2 from hj)), cell_of_row _ w.heap.size j ROW _ (0, 0) hh1]
      exact hRt j v hj hv
    · intro j v hj
      obtain ⟨hjl, hjv⟩ := List.getElem?_eq_some_iff.1 hj
      have hjl2 : j < 2 := hjl
      rw [World.cell?_setCells_out _ _ _ _ _ (fun _ _ => .inl (show i * 2 + j < (i + 1) * 2 by omega))]
      show ((w.alloc (.cells ROW 50)).drew.setCells w.heap.size (i * 2) [.string x.f0, .string x.f1]).cell? _ = _
      rw [World.cell?_setCells_in _ [.string x.f0, .string x.f1] (i * 2) _ (fun k hk => hsp _ (by simp only [List.length_cons, List.length_nil] at hk; omega)) j hjl, hjv]
    · intro j v hj
      obtain ⟨hjl, hjv⟩ := List.getElem?_eq_some_iff.1 hj
      rw [World.cell?_setCells_in _ (refs_set.flat (l0.drop i)) ((i + 1) * 2) _ (fun k hk => hsp1 _ (by omega)) j hjl, hjv]
 · obtain rfl : i = l0.length := by omega
   rw [List.take_length, List.drop_eq_nil_of_le (Nat.le_refl _)]
   exact refs_set.insert_end A0 c0 l0 vb x w base hR (refs_set.oneC hV) hb h1
theorem refs_set.clear (w : World) (ty : TypeId) (b o c : Nat) (hc : ∀ j, j < 2 → (w.cell? ⟨b, o + j, none⟩).isSome = true) (hf : ∀ j, j < 2 → w.frozen? ⟨b, o + j, none⟩ = false) :
 (Builtin.clear_ #[22] ty #[.slice (some ⟨b, o, none⟩) 1 c]).run Try.prog w = .ok (.tuple #[]) (w.setCells b o [.string ⟨#[]⟩, .string ⟨#[]⟩]) := by
 obtain ⟨i, hi, hz, hs, _⟩ := info_parts refs_set.info
 have hst := run_storeCells_cells (P := Try.prog) b o [.string ⟨#[]⟩, .string ⟨#[]⟩] 0 w (by simpa using hc) (by simpa using hf) (fun v hv => by simp only [List.mem_cons, List.not_mem_nil, or_false] at hv; rcases hv with rfl | rfl <;> rfl)
 have hzc : (Builtin.zeroCells (Value.agg #[.string ⟨#[]⟩, .string ⟨#[]⟩]).cells 1).toList = [.string ⟨#[]⟩, .string ⟨#[]⟩] := by simp [Builtin.zeroCells, Value.cells, Array.toList_range, List.range_succ]
 have hzv : (zeroValue 50).run Try.prog w = .ok (Value.agg #[.string ⟨#[]⟩, .string ⟨#[]⟩]) w := by simp [zeroValue, typeInfo, hi, hz]
 simp only [Nat.add_zero] at hst
 simp [Builtin.clear_, run_underlying Try.underlying22, hzv, hzc, hst]
theorem refs_set.cutM {A : Addr} (n c : Nat) (i j : Nat) (hij : i ≤ j) (hi : i < c) (hc : j ≤ c) (x y : Int) (hx : x = (i : Int)) (hy : y = (j : Int)) : ∀ W : World, (Instr.slice 22 (.slice (some A) n c) (some (.int .i64 x)) (some (.int .i64 y)) none).run Try.prog W = .ok (.slice (some (A.add (i * 2))) (j - i) (c - i)) W := by
 intro W
 obtain ⟨i0, hi0, _, hsz0, _⟩ := info_parts refs_set.info
 have hel : Try.prog.elem 22 = 50 := by simp [Program.elem, Try.underlying22]
 have hu : Try.prog.underlying 22 = some (.slice (Try.prog.elem 22)) := by rw [hel]; exact Try.underlying22
 rw [run_slice_lh W 22 (some A) n c hu .i64 .i64 x y (by omega) (by omega) (by omega), hel]
 have e : x.toNat = i := by omega
 have e2 : y.toNat = j := by omega
 have e3 : ¬ (c = i) := by omega
 simp [sizeOf, typeInfo, hi0, hsz0, sliced, Result.andThen, e, e2, e3]
set_option maxHeartbeats 4000000 in
set_option maxRecDepth 100000 in
/-- slices.Delete of one. -/
theorem refs_set.del (g c i n : Nat) (l : List (S50)) (w : World) (hi : i < n) (hn : l.length = n) (hnc : n ≤ c) (h1 : n ≤ 100000) (cur : Array Value) (hh : w.heap[g]? = some (.cells cur 50 (0, 0))) (hs : cur.size = c * 2) (hm : c ≤ maxLen)
 (hcs : ∀ j v, (refs_set.flat l)[j]? = some v → w.cell? ⟨g, j, none⟩ = some v) :
 Calls Try.prog 41 #[.slice (some ⟨g, 0, none⟩) n c, .int .i64 (i : Int), .int .i64 ((i : Int) + 1)] w fun e w' =>
  e = .returned (.slice (some ⟨g, 0, none⟩) (n - 1) c) ∧ w' = (w.drew.setCells g (i * 2) (refs_set.flat (l.drop (i + 1)))).setCells g ((n - 1) * 2) [.string ⟨#[]⟩, .string ⟨#[]⟩] := by
 obtain ⟨i0, hi0, hz0, hsz0, _⟩ := info_parts refs_set.info
 have mixed : Try.prog.follows Departure.mixedOrders = true := by kernel_rfl
 have hc63 : c ≤ 9223372036854775807 := hm
 have hel : Try.prog.elem 22 = 50 := by simp [Program.elem, Try.underlying22]
 have hu : Try.prog.underlying 22 = some (.slice (Try.prog.elem 22)) := by rw [hel]; exact Try.underlying22
 have hz : ∀ w, (Go.sizeOf 50).run Try.prog w = .ok 2 w := fun w => by simp [sizeOf, typeInfo, hi0, hsz0]
 obtain ⟨X, hcut1⟩ : ∃ X, ∀ W : World, (Instr.slice 22 (.slice (some ⟨g, 0, none⟩) n c) (some (.int .i64 (i : Int))) (some (.int .i64 ((i : Int) + 1))) (some (.int .i64 (n : Int)))).run Try.prog W = .ok X W := ⟨_, fun W => by
  rw [run_slice_lhm W 22 (some ⟨g, 0, none⟩) n c hu .i64 .i64 .i64 (i : Int) ((i : Int) + 1) (n : Int) (by omega) (by omega) (by omega) (by omega), hel, hz]
  rfl⟩
 have hcut2 := refs_set.cutT (A := ⟨g, 0, none⟩) n c i (by omega) (i : Int) rfl
 have hdl : (refs_set.flat (l.drop (i + 1))).length = (n - (i + 1)) * 2 := by rw [refs_set.flat_len, List.length_drop, hn]
 obtain ⟨A, hcut3, hsrc⟩ : ∃ A : Addr, (∀ W : World, (Instr.slice 22 (.slice (some ⟨g, 0, none⟩) n c) (some (.int .i64 ((i : Int) + 1))) none none).run Try.prog W = .ok (.slice (some A) (n - (i + 1)) (c - (i + 1))) W) ∧ Aside0 (∀ t u, (refs_set.flat (l.drop (i + 1)))[t]? = some u → w.drew.cell? (A.add t) = some u) := by
  by_cases h : c = i + 1
  · have h0 : (refs_set.flat (l.drop (i + 1))).length = 0 := by rw [hdl]; omega
    refine ⟨⟨g, 0, none⟩, fun W => ?_, ⟨fun t u hu => ?_⟩⟩
    · have := cut_from (P := Try.prog) 22 50 .i64 Try.underlying22 hi0 2 hsz0 (some ⟨g, 0, none⟩) n c ((i : Int) + 1) (by omega) (by omega) W
      rw [show ((i : Int) + 1).toNat = i + 1 by omega, if_pos h] at this
      exact this
    · rw [List.length_eq_zero_iff.1 h0] at hu
      simp at hu
  · refine ⟨⟨g, (i + 1) * 2, none⟩, ?_, ⟨fun t u hu => ?_⟩⟩
    · have := refs_set.cutF (A := ⟨g, 0, none⟩) n c (i + 1) (by omega) (by omega) ((i : Int) + 1) (by omega)
      rw [refs_set.add_lit, Nat.zero_add] at this
      exact this
    · rw [refs_set.add_lit]
      refine hcs ((i + 1) * 2 + t) u ?_
      rw [← refs_set.flat_drop, List.getElem?_drop] at hu
      exact hu
 have s1 : Aside0 ((refs_set.flat (l.drop (i + 1))).length = (n - (i + 1)) * 2) := ⟨hdl⟩
 have s2 : Aside0 (∀ u ∈ refs_set.flat (l.drop (i + 1)), u.oneCell' = true) := ⟨refs_set.flat_one _⟩
 have hsp : ∀ j, j < c * 2 → (w.cell? ⟨g, j, none⟩).isSome = true := fun j hj => by
  rw [cell_of_row w g j cur _ (0, 0) hh, Array.getElem?_eq_getElem (by omega)]; rfl
 have hfz : ∀ j, w.frozen? ⟨g, j, none⟩ = false := fun j => by simp [World.frozen?, hh]
 have s3 : Aside0 (∀ t, t < (refs_set.flat (l.drop (i + 1))).length → (w.drew.cell? ⟨g, 0 + i * 2 + t, none⟩).isSome = true ∧ w.drew.frozen? ⟨g, 0 + i * 2 + t, none⟩ = false) := ⟨fun t ht => ⟨hsp _ (by omega), hfz _⟩⟩
 obtain ⟨W1, hW1⟩ : ∃ W1, W1 = w.drew.setCells g (0 + i * 2) (refs_set.flat (l.drop (i + 1))) := ⟨_, rfl⟩
 obtain ⟨cur1, hh1, hs1⟩ := refs_set.setCells_heap g _ (refs_set.flat (l.drop (i + 1))) (0 + i * 2) w.drew cur hh
 rw [← hW1] at hh1
 have hcut4 := refs_set.cutM (A := ⟨g, 0, none⟩) (i + (n - (i + 1))) c (i + (n - (i + 1))) n (by omega) (by omega) hnc ((i + (n - (i + 1)) : Nat) : Int) (n : Int) rfl rfl
 rw [refs_set.add_lit, Nat.zero_add] at hcut4
 have hcl : ∀ ty cc, (Builtin.clear_ #[22] ty #[.slice (some ⟨g, (i + (n - (i + 1))) * 2, none⟩) (n - (i + (n - (i + 1)))) cc]).run Try.prog W1 = .ok (.tuple #[]) (W1.setCells g ((i + (n - (i + 1))) * 2) [.string ⟨#[]⟩, .string ⟨#[]⟩]) := fun ty cc => by
  rw [show n - (i + (n - (i + 1))) = 1 by omega]
  exact refs_set.clear W1 ty g _ cc (fun j hj => by rw [cell_of_row W1 g _ cur1 _ (0, 0) hh1, Array.getElem?_eq_getElem (by omega)]; rfl) (fun j hj => by simp [World.frozen?, hh1])
 have HW := Aside0.mk hW1
 have hzi : ((i : Int) == (i : Int) + 1) = false := beq_eq_false_iff_ne.mpr (by omega)
 clear hW1 hh1 hs1 hsp hfz hcs hdl hz hu hel
 go_enter Try.func41, Try.ntmps41
 go_wp2_with fail
 go_region_law_o (refine step_append_room rfl (.tmp 22) (.tmp 25) 22 rfl 50 i0 2 Try.underlying22 hi0 hsz0 g 0 i c (by simp [Act.eval, Act.put]) A (n - (i + 1)) (c - (i + 1)) (refs_set.flat (l.drop (i + 1))) (by simp [Act.eval, Act.put]) s1.out hsrc.out s2.out (by omega) s3.out ?_; rw [← HW.out])
 go_wp2
 go_ret
 refine ⟨by rw [show n - 1 = i + (n - (i + 1)) by omega]; rfl, ?_⟩
 rw [show n - 1 = i + (n - (i + 1)) by omega, HW.out, Nat.zero_add]
theorem refs_set.open {A0 : Option Addr} {c0 : Nat} {l0 : List (S50)} {w : World} {base : Nat} (hR : Kd.R k50 50 w base (fun _ => True) (.slice A0 l0.length c0) l0) (h : 0 < l0.length) :
 ∃ g cur, A0 = some ⟨g, 0, none⟩ ∧ base ≤ g ∧ w.heap[g]? = some (.cells cur 50 (0, 0)) ∧ l0.length ≤ c0 ∧ c0 ≤ maxLen ∧ cur.size = c0 * 2 ∧ (∀ j v, (refs_set.flat l0)[j]? = some v → w.cell? ⟨g, j, none⟩ = some v) := by
 obtain ⟨_, inner, ho, hr⟩ := hR
 have hin : inner = refs_set.flat l0 := refs_set.inner_flat hr
 subst hin
 rcases ho.2 with ⟨he, h0⟩ | ⟨g, cap, cur, he, hbg, hh, hnc, hm, hs, ht⟩
 · omega
 · injection he with e1 _ e3
   subst e1
   subst e3
   have hs : cur.size = c0 * 2 := hs
   refine ⟨g, cur, rfl, hbg, hh, hnc, hm, hs, fun j v hj => ?_⟩
   rw [cell_of_row w g j cur _ (0, 0) hh, ← Array.getElem?_toList]
   have hlj : j < l0.length * 2 := by
    have := (List.getElem?_eq_some_iff.1 hj).1
    rw [refs_set.flat_len] at this
    exact this
   have ht : cur.toList.take (l0.length * 2) = refs_set.flat l0 := ht
   rw [← ht, List.getElem?_take, if_pos hlj] at hj
   exact hj
/-- slices.Delete of one ref out of a row of one's own. -/
theorem refs_set.delete (A0 : Option Addr) (c0 : Nat) (l0 : List (S50)) (i : Nat) (w : World) (base : Nat) (hR : Kd.R k50 50 w base (fun _ => True) (.slice A0 l0.length c0) l0) (h1 : l0.length ≤ 100000) (hi : i < l0.length) :
 Calls Try.prog 41 #[.slice A0 l0.length c0, .int .i64 (i : Int), .int .i64 ((i : Int) + 1)] w fun e w' => ∃ v0_ : Value, e = .returned (v0_) ∧ Kd.R k50 50 w' base (fun _ => True) v0_ (l0.take i ++ l0.drop (i + 1)) ∧ Below base w w' := by
 obtain ⟨g, cur, rfl, hbg, hh, hnc, hm, hs, hcs⟩ := refs_set.open hR (by omega)
 refine (refs_set.del g c0 i l0.length l0 w hi rfl hnc h1 cur hh hs hm hcs).mono ?_
 rintro e w' ⟨rfl, rfl⟩
 obtain ⟨cur1, hh1, hs1⟩ := refs_set.setCells_heap g _ (refs_set.flat (l0.drop (i + 1))) (i * 2) w.drew cur hh
 obtain ⟨cur2, hh2, hs2⟩ := refs_set.setCells_heap g _ [.string ⟨#[]⟩, .string ⟨#[]⟩] ((l0.length - 1) * 2) _ cur1 hh1
 have fd : (refs_set.flat (l0.drop (i + 1))).length = (l0.length - (i + 1)) * 2 := by rw [refs_set.flat_len, List.length_drop]
 have ft : (refs_set.flat (l0.take i)).length = i * 2 := by rw [refs_set.flat_len, List.length_take]; congr 1; omega
 have hlen : (l0.take i ++ l0.drop (i + 1)).length = l0.length - 1 := by rw [List.length_append, List.length_take, List.length_drop]; simp only [Nat.min_def]; split <;> omega
 have hsp : ∀ j, j < c0 * 2 → (w.drew.cell? ⟨g, j, none⟩).isSome = true := fun j hj => by
  rw [cell_of_row w.drew g j cur _ (0, 0) hh, Array.getElem?_eq_getElem (by omega)]; rfl
 refine ⟨_, rfl, ?_, refs_set.below_setCells g hbg _ _ _ (refs_set.below_setCells g hbg _ _ _ (below_drew1 (Below.refl base w)))⟩
 refine refs_set.own _ base g (l0.length - 1) c0 cur2 _ hbg hh2 (by omega) hlen (by omega) hm (fun j v hj => ?_)
 have hjl := (List.getElem?_eq_some_iff.1 hj).1
 rw [refs_set.flat_len, hlen] at hjl
 rw [World.cell?_setCells_out g _ _ _ _ (fun _ _ => .inl (show j < (l0.length - 1) * 2 from hjl))]
 rw [refs_set.flat_app] at hj
 by_cases hlt : j < i * 2
 · rw [List.getElem?_append_left (by omega)] at hj
   rw [World.cell?_setCells_out g _ _ _ _ (fun _ _ => .inl (show j < i * 2 from hlt))]
   refine hcs j v ?_
   rw [← refs_set.flat_take, List.getElem?_take, if_pos hlt] at hj
   exact hj
 · rw [List.getElem?_append_right (by omega), ft] at hj
   obtain ⟨hk, hv⟩ := List.getElem?_eq_some_iff.1 hj
   have := World.cell?_setCells_in g (refs_set.flat (l0.drop (i + 1))) (i * 2) w.drew (fun k hk => hsp _ (by omega)) (j - i * 2) hk
   rw [hv, show i * 2 + (j - i * 2) = j by omega] at this
   exact this
/-- Another id in its place. -/
theorem refs_set.put {c0 : Nat} {l0 : List (S50)} {w : World} {base g i : Nat} {cur : Array Value} {id : ByteArray} (hi : i < l0.length) (hbg : base ≤ g) (hh : w.heap[g]? = some (.cells cur 50 (0, 0))) (hnc : l0.length ≤ c0) (hm : c0 ≤ maxLen) (hs : cur.size = c0 * 2) (hcs : ∀ j v, (refs_set.flat l0)[j]? = some v → w.cell? ⟨g, j, none⟩ = some v) :
 Kd.R k50 50 (w.setCell ⟨g, i * 2 + 1, none⟩ (.string id)) base (fun _ => True) (.slice (some ⟨g, 0, none⟩) l0.length c0) (l0.take i ++ (⟨(rd_T50 l0 (i : Int)).f0, id⟩ : S50) :: l0.drop (i + 1)) := by
 have hrd : rd_T50 l0 (i : Int) = l0[i]'hi := by
  unfold rd_T50
  rw [Int.toNat_natCast, List.getD, List.getElem?_eq_getElem hi, Option.getD_some]
 have ft : (refs_set.flat (l0.take i)).length = i * 2 := by rw [refs_set.flat_len, List.length_take]; congr 1; omega
 have hlen : (l0.take i ++ (⟨(rd_T50 l0 (i : Int)).f0, id⟩ : S50) :: l0.drop (i + 1)).length = l0.length := by rw [List.length_append, List.length_cons, List.length_take, List.length_drop]; simp only [Nat.min_def]; split <;> omega
 refine refs_set.own _ base g l0.length c0 _ _ hbg (blk_set hh (i * 2 + 1) (.string id)) (by rw [Array.size_setIfInBounds]; exact hs) hlen hnc hm (fun j v hj => ?_)
 rw [refs_set.flat_app] at hj
 by_cases hlt : j < i * 2
 · rw [List.getElem?_append_left (by omega)] at hj
   rw [World.cell?_setCell_other _ _ _ _ (by first | (simp; done) | (simp; omega))]
   refine hcs j v ?_
   rw [← refs_set.flat_take, List.getElem?_take, if_pos hlt] at hj
   exact hj
 ·
  rw [List.getElem?_append_right (by omega), ft] at hj
  have hj2 : (Value.string (rd_T50 l0 (i : Int)).f0 :: Value.string id :: refs_set.flat (l0.drop (i + 1)))[j - i * 2]? = some v := hj
  have old : ∀ m v2, ((refs_set.flat l0).drop (i * 2))[m]? = some v2 → w.cell? ⟨g, i * 2 + m, none⟩ = some v2 := fun m v2 h2 => hcs _ v2 (by rw [List.getElem?_drop] at h2; exact h2)
  rw [refs_set.flat_drop, List.drop_eq_getElem_cons hi] at old
  by_cases h1 : j = i * 2 + 1
  · subst h1
    rw [show i * 2 + 1 - i * 2 = 1 by omega] at hj2
    have hv : Value.string id = v := Option.some.inj hj2
    rw [← hv, cell_of_row _ g _ _ _ (0, 0) (blk_set hh (i * 2 + 1) (.string id)), Array.getElem?_setIfInBounds_self_of_lt (by omega)]
  · rw [World.cell?_setCell_other _ _ _ _ (by first | (simp; done) | (simp; omega))]
    have := old (j - i * 2) v (by
     by_cases h0 : j - i * 2 = 0
     · rw [h0] at hj2 ⊢
       rw [hrd] at hj2
       exact hj2
     · obtain ⟨m, hm2⟩ : ∃ m, j - i * 2 = m + 2 := ⟨j - i * 2 - 2, by omega⟩
       rw [hm2] at hj2 ⊢
       exact hj2)
    rw [show i * 2 + (j - i * 2) = j by omega] at this
    exact this
set_option maxHeartbeats 4000000 in
set_option maxRecDepth 100000 in
theorem refs_set.calls (k : Nat) (a0_0 : ByteArray) (A0_1 : Option Addr) (c0_1 : Nat) (l0_1 : List (S50)) (a1 : ByteArray) (a2 : ByteArray) (r1 : ByteArray) (r2 : List (S50)) (w : World) (hr0_1 : Kd.C k50 w A0_1 l0_1.length l0_1) (hc0_1 : l0_1.length ≤ c0_1) (h : refs_set.f k a0_0 l0_1 a1 a2 = some (r1, r2)) :
 Calls Try.prog 27 #[.agg #[.string a0_0, .slice A0_1 l0_1.length c0_1], .string a1, .string a2] w fun e w' => ∃ v1_ : Value, e = .returned (.agg #[.string r1, v1_]) ∧ Kd.R k50 50 w' w.heap.size (fun _ => True) v1_ r2 ∧ Below w.heap.size w w' := by
 obtain ⟨⟨pi, ps⟩, hp, h⟩ := Option.bind_eq_some_iff.mp h
 dsimp only at h
 by_cases hif : l0_1.length ≤ 100000 ∧ 0 ≤ pi ∧ pi ≤ (l0_1.length : Int)
 ·
  rw [if_pos hif] at h
  obtain ⟨h1, hp0, hp1⟩ := hif
  obtain ⟨i, hpi⟩ : ∃ i : Nat, i = pi.toNat := ⟨_, rfl⟩
  have hpi2 : pi = (i : Int) := by omega
  rw [← hpi] at h
  subst hpi2
  have LM := Aside0.mk h1
  have HI := Aside0.mk (show i ≤ l0_1.length by omega)
  have e1 : IntKind.i64.wrap ((i : Int) + 1) = (i : Int) + 1 := by rw [IntKind.wrap_i64]; omega
  clear h1 hp0 hpi
  cases ps with
  | false =>
   rw [if_neg (by simp)] at h
   by_cases h2 : a2.toList = ([] : List UInt8)
   ·
    rw [if_pos h2] at h
    have h := Option.some.inj h
    obtain ⟨rfl, rfl⟩ := Prod.mk.injEq .. ▸ h
    have P := Aside0.mk hp
    have HR := Aside0.mk hr0_1
    have HC := Aside0.mk hc0_1
    have HB := Aside0.mk (Below.refl w.heap.size w)
    have b0 : (a2.toList == ([] : List UInt8)) = true := beq_iff_eq.mpr h2
    have b1 : (a2.toList != ([] : List UInt8)) = false := bne_eq_false_iff_eq.mpr h2
    clear h hp hr0_1 hc0_1 h2
    go_enter Try.func27, Try.ntmps27
    go_wp2_with (first
     | ((with_reducible refine gate_dst (N := 3) rfl ?_); refine box_event ?hg (N := 3) ?hd (cs := #[.string a0_0, .slice A0_1 l0_1.length c0_1]) (t := 24) ?hr ?_; (case hd => rfl); (case hg => rfl); (case hr => first | (go_simp; done) | (go_simp; rfl)); intro g3 hg w4 hbox hb; have HB4 := Aside0.mk (below_step HB.out hb); have BK3 := Aside0.mk hbox; have GE3 := Aside0.mk ((by rw [hg]; exact Nat.le_refl _) : w.heap.size ≤ g3); clear hb hbox hg)
     | ((with_reducible refine gate_dst (N := 6) rfl ?_); refine box_event ?hg (N := 6) ?hd (cs := #[.string (⟨#[]⟩ : ByteArray), .slice none 0 0]) (t := 24) ?hr ?_; (case hd => rfl); (case hg => rfl); (case hr => first | (go_simp; done) | (go_simp; rfl)); intro g6 hg w5 hbox hb; have HB5 := Aside0.mk (below_step HB4.out hb); have NB := Aside0.mk ((by rw [hg]; exact Nat.ne_of_lt (blk_lt BK3.out)) : g3 ≠ g6); have BK3_5 := Aside0.mk (blk_below BK3.out hb); have BK6_5 := Aside0.mk hbox; have GE6 := Aside0.mk ((by rw [hg]; exact HB4.out.size) : w.heap.size ≤ g6); have hz5 : w5.cell? ⟨g3, 1, none⟩ = some (.slice A0_1 l0_1.length c0_1) := (blk_cell BK3_5.out 1).trans rfl; clear hb hbox hg)
     | (go_at_call 39; refine (refs_place.calls k A0_1 c0_1 l0_1 a1 (i : Int) false _ (Kd.C_below HR.out HB5.out) HC.out P.out).mono ?_; rintro e w6 ⟨rfl, hb⟩; have HB6 := Aside0.mk (below_step HB5.out hb); have BK3_6 := Aside0.mk (blk_below BK3_5.out hb); have BK6_6 := Aside0.mk (blk_below BK6_5.out hb); have hz6 : w6.cell? ⟨g3, 1, none⟩ = some (.slice A0_1 l0_1.length c0_1) := (blk_cell BK3_6.out 1).trans rfl; clear hb)
     | (go_at_call 23; refine (refs_set.clone A0_1 c0_1 l0_1 _ (Kd.C_below HR.out HB6.out) HC.out LM.out).mono ?_; rintro e w7 ⟨v7, rfl, hR7, hb⟩; obtain ⟨A7, c7, rfl⟩ := Kd.R_slice hR7; have HR7 := Aside0.mk hR7; have HB7 := Aside0.mk (below_step HB6.out hb); have HS7 := Aside0.mk hb.size; have BK3_7 := Aside0.mk (blk_below BK3_6.out hb); have BK6_7 := Aside0.mk (blk_below BK6_6.out hb); clear hb hR7; have hz90 : w7.cell? ⟨g3, 0, none⟩ = some (.string a0_0) := (blk_cell BK3_7.out 0).trans rfl; have hz91 : w7.cell? ⟨g3, 1, none⟩ = some (.slice A0_1 l0_1.length c0_1) := (blk_cell BK3_7.out 1).trans rfl; have hf90 := blk_frozen BK3_7.out 0; have hf91 := blk_frozen BK3_7.out 1; have hz92 : w7.cell? ⟨g6, 0, none⟩ = some (.string (⟨#[]⟩ : ByteArray)) := (blk_cell BK6_7.out 0).trans rfl; have hz93 : w7.cell? ⟨g6, 1, none⟩ = some (.slice none 0 0) := (blk_cell BK6_7.out 1).trans rfl; have hf92 := blk_frozen BK6_7.out 0; have hf93 := blk_frozen BK6_7.out 1; have hne := NB.out; have hne2 := NB.out.symm))
    have Q1 : (w7.setCell ⟨g3, 1, none⟩ (.slice A7 l0_1.length c7)).heap[g6]? = some (.cells #[.string (⟨#[]⟩ : ByteArray), .slice none 0 0] 24 (0, 0)) := blk_far BK6_7.out hne2 _
    have Q2 : ((w7.setCell ⟨g3, 1, none⟩ (.slice A7 l0_1.length c7)).setCell ⟨g6, 0, none⟩ (.string a0_0)).heap[g6]? = some (.cells #[.string a0_0, .slice none 0 0] 24 (0, 0)) := blk_put Q1 0 _ rfl
    refine bodyPost_ret (results_cell_row rfl _ _ g6 24 #[.string a0_0, .slice A7 l0_1.length c7] (0, 0) _ rfl (blk_put Q2 1 _ rfl) Try.underlying24 rfl (by kernel_rfl)) rfl ?_
    exact ⟨_, rfl, Kd.R_set (Kd.R_set (Kd.R_set (Kd.R_lower HR7.out HB6.out.size) BK3_7.out (by decide) 1 _) Q1 (by decide) 0 _) Q2 (by decide) 1 _, below_set (below_set (below_set HB7.out GE3.out) GE6.out) GE6.out⟩
   ·
    rw [if_neg h2] at h
    have h := Option.some.inj h
    obtain ⟨rfl, rfl⟩ := Prod.mk.injEq .. ▸ h
    have P := Aside0.mk hp
    have HR := Aside0.mk hr0_1
    have HC := Aside0.mk hc0_1
    have HB := Aside0.mk (Below.refl w.heap.size w)
    have b0 : (a2.toList == ([] : List UInt8)) = false := beq_eq_false_iff_ne.mpr h2
    have b1 : (a2.toList != ([] : List UInt8)) = true := bne_iff_ne.mpr h2
    clear h hp hr0_1 hc0_1 h2
    go_enter Try.func27, Try.ntmps27
    go_wp2_with (first
     | ((with_reducible refine gate_dst (N := 3) rfl ?_); refine box_event ?hg (N := 3) ?hd (cs := #[.string a0_0, .slice A0_1 l0_1.length c0_1]) (t := 24) ?hr ?_; (case hd => rfl); (case hg => rfl); (case hr => first | (go_simp; done) | (go_simp; rfl)); intro g3 hg w4 hbox hb; have HB4 := Aside0.mk (below_step HB.out hb); have BK3 := Aside0.mk hbox; have GE3 := Aside0.mk ((by rw [hg]; exact Nat.le_refl _) : w.heap.size ≤ g3); clear hb hbox hg)
     | ((with_reducible refine gate_dst (N := 6) rfl ?_); refine box_event ?hg (N := 6) ?hd (cs := #[.string (⟨#[]⟩ : ByteArray), .slice none 0 0]) (t := 24) ?hr ?_; (case hd => rfl); (case hg => rfl); (case hr => first | (go_simp; done) | (go_simp; rfl)); intro g6 hg w5 hbox hb; have HB5 := Aside0.mk (below_step HB4.out hb); have NB := Aside0.mk ((by rw [hg]; exact Nat.ne_of_lt (blk_lt BK3.out)) : g3 ≠ g6); have BK3_5 := Aside0.mk (blk_below BK3.out hb); have BK6_5 := Aside0.mk hbox; have GE6 := Aside0.mk ((by rw [hg]; exact HB4.out.size) : w.heap.size ≤ g6); have hz5 : w5.cell? ⟨g3, 1, none⟩ = some (.slice A0_1 l0_1.length c0_1) := (blk_cell BK3_5.out 1).trans rfl; clear hb hbox hg)
     | (go_at_call 39; refine (refs_place.calls k A0_1 c0_1 l0_1 a1 (i : Int) false _ (Kd.C_below HR.out HB5.out) HC.out P.out).mono ?_; rintro e w6 ⟨rfl, hb⟩; have HB6 := Aside0.mk (below_step HB5.out hb); have BK3_6 := Aside0.mk (blk_below BK3_5.out hb); have BK6_6 := Aside0.mk (blk_below BK6_5.out hb); have hz6 : w6.cell? ⟨g3, 1, none⟩ = some (.slice A0_1 l0_1.length c0_1) := (blk_cell BK3_6.out 1).trans rfl; clear hb)
     | (go_at_call 23; refine (refs_set.clone A0_1 c0_1 l0_1 _ (Kd.C_below HR.out HB6.out) HC.out LM.out).mono ?_; rintro e w7 ⟨v7, rfl, hR7, hb⟩; obtain ⟨A7, c7, rfl⟩ := Kd.R_slice hR7; have HR7 := Aside0.mk hR7; have HB7 := Aside0.mk (below_step HB6.out hb); have HS7 := Aside0.mk hb.size; have BK3_7 := Aside0.mk (blk_below BK3_6.out hb); have BK6_7 := Aside0.mk (blk_below BK6_6.out hb); clear hb hR7)
     | (go_at_call 42; refine (refs_set.insert A7 c7 l0_1 i w7.heap.size (⟨a1, a2⟩ : S50) _ w6.heap.size (Kd.R_alloc HR7.out _) (blk_new w7 _) (fun k_ hk_ => Nat.ne_of_gt (Kd.R_lt HR7.out k_ hk_)) (Nat.le_trans HS7.out (below_size (below_alloc (Below.refl _ _) _))) LM.out HI.out).mono ?_; rintro e w9 ⟨v9, rfl, hR9, hb⟩; obtain ⟨L9, hL9⟩ : ∃ L_, L_ = l0_1.take i ++ (⟨a1, a2⟩ : S50) :: l0_1.drop i := ⟨_, rfl⟩; rw [← hL9] at hR9; have HL9 := Aside0.mk hL9; clear hL9; obtain ⟨A9, c9, rfl⟩ := Kd.R_slice hR9; have HR9 := Aside0.mk (Kd.R_lower hR9 HB6.out.size); have HB9 := Aside0.mk ((below_alloc HB7.out _).trans (hb.mono HB6.out.size)); have BK3_9 := Aside0.mk ((hb.block g3 (blk_lt BK3_6.out)).trans (blk_alloc BK3_7.out _)); have BK6_9 := Aside0.mk ((hb.block g6 (blk_lt BK6_6.out)).trans (blk_alloc BK6_7.out _)); have hz90 : w9.cell? ⟨g3, 0, none⟩ = some (.string a0_0) := (blk_cell BK3_9.out 0).trans rfl; have hz91 : w9.cell? ⟨g3, 1, none⟩ = some (.slice A0_1 l0_1.length c0_1) := (blk_cell BK3_9.out 1).trans rfl; have hf90 := blk_frozen BK3_9.out 0; have hf91 := blk_frozen BK3_9.out 1; have hz92 : w9.cell? ⟨g6, 0, none⟩ = some (.string (⟨#[]⟩ : ByteArray)) := (blk_cell BK6_9.out 0).trans rfl; have hz93 : w9.cell? ⟨g6, 1, none⟩ = some (.slice none 0 0) := (blk_cell BK6_9.out 1).trans rfl; have hf92 := blk_frozen BK6_9.out 0; have hf93 := blk_frozen BK6_9.out 1; have hne := NB.out; have hne2 := NB.out.symm; clear hb hR9))
    rw [← HL9.out]
    have Q1 : (w9.setCell ⟨g3, 1, none⟩ (.slice A9 L9.length c9)).heap[g6]? = some (.cells #[.string (⟨#[]⟩ : ByteArray), .slice none 0 0] 24 (0, 0)) := blk_far BK6_9.out hne2 _
    have Q2 : ((w9.setCell ⟨g3, 1, none⟩ (.slice A9 L9.length c9)).setCell ⟨g6, 0, none⟩ (.string a0_0)).heap[g6]? = some (.cells #[.string a0_0, .slice none 0 0] 24 (0, 0)) := blk_put Q1 0 _ rfl
    refine bodyPost_ret (results_cell_row rfl _ _ g6 24 #[.string a0_0, .slice A9 L9.length c9] (0, 0) _ rfl (blk_put Q2 1 _ rfl) Try.underlying24 rfl (by kernel_rfl)) rfl ?_
    exact ⟨_, rfl, Kd.R_set (Kd.R_set (Kd.R_set HR9.out BK3_9.out (by decide) 1 _) Q1 (by decide) 0 _) Q2 (by decide) 1 _, below_set (below_set (below_set HB9.out GE3.out) GE6.out) GE6.out⟩
  | true =>
   rw [if_pos rfl] at h
   by_cases h3 : (i : Int) < (l0_1.length : Int)
   ·
    rw [if_pos h3] at h
    have HI2 := Aside0.mk (show i < l0_1.length by omega)
    by_cases h2 : a2.toList = ([] : List UInt8)
    ·
     rw [if_pos h2] at h
     have h := Option.some.inj h
     obtain ⟨rfl, rfl⟩ := Prod.mk.injEq .. ▸ h
     have P := Aside0.mk hp
     have HR := Aside0.mk hr0_1
     have HC := Aside0.mk hc0_1
     have HB := Aside0.mk (Below.refl w.heap.size w)
     have b0 : (a2.toList == ([] : List UInt8)) = true := beq_iff_eq.mpr h2
     have b1 : (a2.toList != ([] : List UInt8)) = false := bne_eq_false_iff_eq.mpr h2
     clear h hp hr0_1 hc0_1 h2 h3
     go_enter Try.func27, Try.ntmps27
     go_wp2_with (first
      | ((with_reducible refine gate_dst (N := 3) rfl ?_); refine box_event ?hg (N := 3) ?hd (cs := #[.string a0_0, .slice A0_1 l0_1.length c0_1]) (t := 24) ?hr ?_; (case hd => rfl); (case hg => rfl); (case hr => first | (go_simp; done) | (go_simp; rfl)); intro g3 hg w4 hbox hb; have HB4 := Aside0.mk (below_step HB.out hb); have BK3 := Aside0.mk hbox; have GE3 := Aside0.mk ((by rw [hg]; exact Nat.le_refl _) : w.heap.size ≤ g3); clear hb hbox hg)
      | ((with_reducible refine gate_dst (N := 6) rfl ?_); refine box_event ?hg (N := 6) ?hd (cs := #[.string (⟨#[]⟩ : ByteArray), .slice none 0 0]) (t := 24) ?hr ?_; (case hd => rfl); (case hg => rfl); (case hr => first | (go_simp; done) | (go_simp; rfl)); intro g6 hg w5 hbox hb; have HB5 := Aside0.mk (below_step HB4.out hb); have NB := Aside0.mk ((by rw [hg]; exact Nat.ne_of_lt (blk_lt BK3.out)) : g3 ≠ g6); have BK3_5 := Aside0.mk (blk_below BK3.out hb); have BK6_5 := Aside0.mk hbox; have GE6 := Aside0.mk ((by rw [hg]; exact HB4.out.size) : w.heap.size ≤ g6); have hz5 : w5.cell? ⟨g3, 1, none⟩ = some (.slice A0_1 l0_1.length c0_1) := (blk_cell BK3_5.out 1).trans rfl; clear hb hbox hg)
      | (go_at_call 39; refine (refs_place.calls k A0_1 c0_1 l0_1 a1 (i : Int) true _ (Kd.C_below HR.out HB5.out) HC.out P.out).mono ?_; rintro e w6 ⟨rfl, hb⟩; have HB6 := Aside0.mk (below_step HB5.out hb); have BK3_6 := Aside0.mk (blk_below BK3_5.out hb); have BK6_6 := Aside0.mk (blk_below BK6_5.out hb); have hz6 : w6.cell? ⟨g3, 1, none⟩ = some (.slice A0_1 l0_1.length c0_1) := (blk_cell BK3_6.out 1).trans rfl; clear hb)
      | (go_at_call 23; refine (refs_set.clone A0_1 c0_1 l0_1 _ (Kd.C_below HR.out HB6.out) HC.out LM.out).mono ?_; rintro e w7 ⟨v7, rfl, hR7, hb⟩; obtain ⟨A7, c7, rfl⟩ := Kd.R_slice hR7; have HR7 := Aside0.mk hR7; have HB7 := Aside0.mk (below_step HB6.out hb); have HS7 := Aside0.mk hb.size; have BK3_7 := Aside0.mk (blk_below BK3_6.out hb); have BK6_7 := Aside0.mk (blk_below BK6_6.out hb); clear hb hR7)
      | (go_at_call 41; refine (refs_set.delete A7 c7 l0_1 i _ w6.heap.size HR7.out LM.out HI2.out).mono ?_; rintro e w9 ⟨v9, rfl, hR9, hb⟩; obtain ⟨L9, hL9⟩ : ∃ L_, L_ = l0_1.take i ++ l0_1.drop (i + 1) := ⟨_, rfl⟩; rw [← hL9] at hR9; have HL9 := Aside0.mk hL9; clear hL9; obtain ⟨A9, c9, rfl⟩ := Kd.R_slice hR9; have HR9 := Aside0.mk (Kd.R_lower hR9 HB6.out.size); have HB9 := Aside0.mk (HB7.out.trans (hb.mono HB6.out.size)); have BK3_9 := Aside0.mk ((hb.block g3 (blk_lt BK3_6.out)).trans BK3_7.out); have BK6_9 := Aside0.mk ((hb.block g6 (blk_lt BK6_6.out)).trans BK6_7.out); have hz90 : w9.cell? ⟨g3, 0, none⟩ = some (.string a0_0) := (blk_cell BK3_9.out 0).trans rfl; have hz91 : w9.cell? ⟨g3, 1, none⟩ = some (.slice A0_1 l0_1.length c0_1) := (blk_cell BK3_9.out 1).trans rfl; have hf90 := blk_frozen BK3_9.out 0; have hf91 := blk_frozen BK3_9.out 1; have hz92 : w9.cell? ⟨g6, 0, none⟩ = some (.string (⟨#[]⟩ : ByteArray)) := (blk_cell BK6_9.out 0).trans rfl; have hz93 : w9.cell? ⟨g6, 1, none⟩ = some (.slice none 0 0) := (blk_cell BK6_9.out 1).trans rfl; have hf92 := blk_frozen BK6_9.out 0; have hf93 := blk_frozen BK6_9.out 1; have hne := NB.out; have hne2 := NB.out.symm; clear hb hR9))
     rw [← HL9.out]
     have Q1 : (w9.setCell ⟨g3, 1, none⟩ (.slice A9 L9.length c9)).heap[g6]? = some (.cells #[.string (⟨#[]⟩ : ByteArray), .slice none 0 0] 24 (0, 0)) := blk_far BK6_9.out hne2 _
     have Q2 : ((w9.setCell ⟨g3, 1, none⟩ (.slice A9 L9.length c9)).setCell ⟨g6, 0, none⟩ (.string a0_0)).heap[g6]? = some (.cells #[.string a0_0, .slice none 0 0] 24 (0, 0)) := blk_put Q1 0 _ rfl
     refine bodyPost_ret (results_cell_row rfl _ _ g6 24 #[.string a0_0, .slice A9 L9.length c9] (0, 0) _ rfl (blk_put Q2 1 _ rfl) Try.underlying24 rfl (by kernel_rfl)) rfl ?_
     exact ⟨_, rfl, Kd.R_set (Kd.R_set (Kd.R_set HR9.out BK3_9.out (by decide) 1 _) Q1 (by decide) 0 _) Q2 (by decide) 1 _, below_set (below_set (below_set HB9.out GE3.out) GE6.out) GE6.out⟩
    ·
     rw [if_neg h2] at h
     have h := Option.some.inj h
     obtain ⟨rfl, rfl⟩ := Prod.mk.injEq .. ▸ h
     have P := Aside0.mk hp
     have HR := Aside0.mk hr0_1
     have HC := Aside0.mk hc0_1
     have HB := Aside0.mk (Below.refl w.heap.size w)
     have b0 : (a2.toList == ([] : List UInt8)) = false := beq_eq_false_iff_ne.mpr h2
     have b1 : (a2.toList != ([] : List UInt8)) = true := bne_iff_ne.mpr h2
     clear h hp hr0_1 hc0_1 h2 h3
     go_enter Try.func27, Try.ntmps27
     go_wp2_with (first
      | ((with_reducible refine gate_dst (N := 3) rfl ?_); refine box_event ?hg (N := 3) ?hd (cs := #[.string a0_0, .slice A0_1 l0_1.length c0_1]) (t := 24) ?hr ?_; (case hd => rfl); (case hg => rfl); (case hr => first | (go_simp; done) | (go_simp; rfl)); intro g3 hg w4 hbox hb; have HB4 := Aside0.mk (below_step HB.out hb); have BK3 := Aside0.mk hbox; have GE3 := Aside0.mk ((by rw [hg]; exact Nat.le_refl _) : w.heap.size ≤ g3); clear hb hbox hg)
      | ((with_reducible refine gate_dst (N := 6) rfl ?_); refine box_event ?hg (N := 6) ?hd (cs := #[.string (⟨#[]⟩ : ByteArray), .slice none 0 0]) (t := 24) ?hr ?_; (case hd => rfl); (case hg => rfl); (case hr => first | (go_simp; done) | (go_simp; rfl)); intro g6 hg w5 hbox hb; have HB5 := Aside0.mk (below_step HB4.out hb); have NB := Aside0.mk ((by rw [hg]; exact Nat.ne_of_lt (blk_lt BK3.out)) : g3 ≠ g6); have BK3_5 := Aside0.mk (blk_below BK3.out hb); have BK6_5 := Aside0.mk hbox; have GE6 := Aside0.mk ((by rw [hg]; exact HB4.out.size) : w.heap.size ≤ g6); have hz5 : w5.cell? ⟨g3, 1, none⟩ = some (.slice A0_1 l0_1.length c0_1) := (blk_cell BK3_5.out 1).trans rfl; clear hb hbox hg)
      | (go_at_call 39; refine (refs_place.calls k A0_1 c0_1 l0_1 a1 (i : Int) true _ (Kd.C_below HR.out HB5.out) HC.out P.out).mono ?_; rintro e w6 ⟨rfl, hb⟩; have HB6 := Aside0.mk (below_step HB5.out hb); have BK3_6 := Aside0.mk (blk_below BK3_5.out hb); have BK6_6 := Aside0.mk (blk_below BK6_5.out hb); have hz6 : w6.cell? ⟨g3, 1, none⟩ = some (.slice A0_1 l0_1.length c0_1) := (blk_cell BK3_6.out 1).trans rfl; clear hb))
     refine (refs_set.clone A0_1 c0_1 l0_1 _ (Kd.C_below HR.out HB6.out) HC.out LM.out).mono ?_
     rintro e w7 ⟨v7, rfl, hR7, hb⟩
     obtain ⟨A7, c7, rfl⟩ := Kd.R_slice hR7
     have HR7 := Aside0.mk hR7
     have HB7 := Aside0.mk (below_step HB6.out hb)
     have HS7 := Aside0.mk hb.size
     have BK3_7 := Aside0.mk (blk_below BK3_6.out hb)
     have BK6_7 := Aside0.mk (blk_below BK6_6.out hb)
     clear hb hR7
     obtain ⟨g7, cur7, hA7, hbg7, hh7, hnc7, hm7, hs7, hcs7⟩ := refs_set.open HR7.out (Nat.lt_of_le_of_lt (Nat.zero_le _) HI2.out)
     subst hA7
     have HH7 := Aside0.mk hh7
     have HC7 := Aside0.mk hcs7
     have HG7 := Aside0.mk hbg7
     have HN7 := Aside0.mk hnc7
     have HM7 := Aside0.mk hm7
     have HS7c := Aside0.mk hs7
     have hadd7 : ∀ j : Nat, (⟨g7, 0, none⟩ : Addr).add j = ⟨g7, j, none⟩ := fun j => by rw [refs_set.add_lit, Nat.zero_add]
     obtain ⟨u7, hu7⟩ : ∃ u_, w7.cell? ⟨g7, i * 2 + 1, none⟩ = some u_ := Option.isSome_iff_exists.1 (by have hi2_ := HI2.out; rw [cell_of_row w7 g7 (i * 2 + 1) cur7 _ (0, 0) hh7, Array.getElem?_eq_getElem (by omega)]; rfl)
     have hfr7 : w7.frozen? ⟨g7, i * 2 + 1, none⟩ = false := by simp [World.frozen?, hh7]
     have p7 := eq_true (show (0 : Int) ≤ (i : Int) by omega)
     have q7 := eq_true (show (i : Int) < (l0_1.length : Int) from (by have := HI2.out; omega))
     clear hbg7 hh7 hnc7 hm7 hs7 hcs7
     have NG3 := Aside0.mk (show g3 ≠ g7 from Nat.ne_of_lt (Nat.lt_of_lt_of_le (blk_lt BK3_6.out) HG7.out))
     have NG6 := Aside0.mk (show g6 ≠ g7 from Nat.ne_of_lt (Nat.lt_of_lt_of_le (blk_lt BK6_6.out) HG7.out))
     have ng3 := NG3.out
     have ng6 := NG6.out
     have ng3b := NG3.out.symm
     have ng6b := NG6.out.symm
     have hz90 : w7.cell? ⟨g3, 0, none⟩ = some (.string a0_0) := (blk_cell BK3_7.out 0).trans rfl
     have hz91 : w7.cell? ⟨g3, 1, none⟩ = some (.slice A0_1 l0_1.length c0_1) := (blk_cell BK3_7.out 1).trans rfl
     have hf90 := blk_frozen BK3_7.out 0
     have hf91 := blk_frozen BK3_7.out 1
     have hz92 : w7.cell? ⟨g6, 0, none⟩ = some (.string (⟨#[]⟩ : ByteArray)) := (blk_cell BK6_7.out 0).trans rfl
     have hz93 : w7.cell? ⟨g6, 1, none⟩ = some (.slice none 0 0) := (blk_cell BK6_7.out 1).trans rfl
     have hf92 := blk_frozen BK6_7.out 0
     have hf93 := blk_frozen BK6_7.out 1
     have hne := NB.out
     have hne2 := NB.out.symm
     go_wp2
     have R0 := refs_set.put (id := a2) HI2.out HG7.out HH7.out HN7.out HM7.out HS7c.out HC7.out
     have V3 : (w7.setCell ⟨g7, i * 2 + 1, none⟩ (.string a2)).heap[g3]? = some (.cells #[.string a0_0, .slice A0_1 l0_1.length c0_1] 24 (0, 0)) := blk_far BK3_7.out ng3 _
     have V6 : (w7.setCell ⟨g7, i * 2 + 1, none⟩ (.string a2)).heap[g6]? = some (.cells #[.string (⟨#[]⟩ : ByteArray), .slice none 0 0] 24 (0, 0)) := blk_far BK6_7.out ng6 _
     have Q1 := blk_far (p := ⟨g3, 1, none⟩) V6 hne2 (.slice (some ⟨g7, 0, none⟩) l0_1.length c7)
     have Q2 := blk_put (cs' := #[.string a0_0, .slice none 0 0]) Q1 0 (.string a0_0) rfl
     refine bodyPost_ret (results_cell_row rfl _ _ g6 24 #[.string a0_0, .slice (some ⟨g7, 0, none⟩) l0_1.length c7] (0, 0) _ rfl (blk_put Q2 1 _ rfl) Try.underlying24 rfl (by kernel_rfl)) rfl ?_
     refine ⟨_, rfl, Kd.R_set (Kd.R_set (Kd.R_set (Kd.R_lower R0 HB6.out.size) V3 (by decide) 1 _) Q1 (by decide) 0 _) Q2 (by decide) 1 _, below_set (below_set (below_set (below_set HB7.out (Nat.le_trans HB6.out.size HG7.out)) GE3.out) GE6.out) GE6.out⟩
   · rw [if_neg h3] at h
     cases h
 · rw [if_neg hif] at h
   cases h


end Go.Proofs.Ytgepbdkbleapaaa.M
