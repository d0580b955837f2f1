/- The program's functions as plain functions, and that each call comes to what these tell; written by a program of this session, some contracts by hand. Conditions: none. -/
import Derived.Test.YtgepbdkbleapaaaMx0
import Derived.Test.YtgepbdkbleapaaaMx12
namespace Go.Proofs.Ytgepbdkbleapaaa.M
open Go.RowKit Go.Proofs.YtgepbdkbleapaaaW.PrintWords Go.Proofs.YtgepbdkbleapaaaW.PrintLast Go.Proofs.YtgepbdkbleapaaaW.PrintMore
attribute [local go_sem] max2_int min2_int max_two min_two max_three min_three max_four min_four   -- for this text's walks alone
set_option linter.unusedVariables false
set_option linter.unusedSimpArgs false

/-! ### code_Unhex: function 37 (given by hand) -/
def code_Unhex.digits : ByteArray := ⟨#[48, 49, 50, 51, 52, 53, 54, 55, 56, 57, 97, 98, 99, 100, 101, 102]⟩
/-- What a digit is worth; below 0 it is none. -/
def code_Unhex.val (c : Int) : Int := Lib.indexByte code_Unhex.digits.data.toList c.toNat.toUInt8
theorem code_Unhex.index_lt (l : List UInt8) (c : UInt8) : Lib.indexByte l c < l.length ∧ -1 ≤ Lib.indexByte l c := by
 induction l with
 | nil => simp [Lib.indexByte]
 | cons b l ih =>
  simp only [Lib.indexByte, List.length_cons]
  split
  · omega
  · split
    · omega
    · omega
theorem code_Unhex.val_lt (c : Int) : code_Unhex.val c < 16 ∧ -1 ≤ code_Unhex.val c := code_Unhex.index_lt code_Unhex.digits.data.toList c.toNat.toUInt8
def code_Unhex.go : Nat → List Int → List Int → Option (List Int)
 | _, [], b => some b
 | i, c :: cs, b => if code_Unhex.val c < 0 then none else if i % 2 = 0 then code_Unhex.go (i + 1) cs (b ++ [code_Unhex.val c * 16]) else code_Unhex.go (i + 1) cs (b.set (b.length - 1) (IntKind.u8.wrap (rd b ((b.length : Int) - 1) + IntKind.u8.wrap (code_Unhex.val c))))
def code_Unhex.f (a0 : ByteArray) : Option (ByteArray × Int) := if a0.size ≤ 70368744177664 then (if a0.size % 2 = 0 then (match code_Unhex.go 0 (bytesOf a0) [] with
 | none => some (⟨#[]⟩, 6)
 | some b => some (strOfNums b, 0)) else some (⟨#[]⟩, 6)) else none
theorem code_Unhex.below_set {B : Nat} {w W : World} (h : Below B w W) {p : Addr} (hp : B ≤ p.block) (v : Value) : Below B w (W.setCell p v) :=
 ⟨h.os, h.tape, h.output, by simpa using h.size, fun k hk => (Below.heap_setCell W p v k (by omega)).trans (h.block k hk)⟩
theorem code_Unhex.info : (Try.prog.info? 5).map (fun i => (i.zero, i.size, i.bytes)) = some (some (.int .u8 0), 1, 1) := by kernel_rfl
set_option maxHeartbeats 4000000 in
set_option maxRecDepth 100000 in
theorem code_Unhex.calls (a0 : ByteArray) (r1 : ByteArray) (r2 : Int) (w : World) (h : code_Unhex.f a0 = some (r1, r2)) :
 Calls Try.prog 37 #[.string a0] w fun e w' => e = .returned (.tuple #[.string r1, .int .i64 r2]) ∧ Below w.heap.size w w' := by
 unfold code_Unhex.f at h
 by_cases hs : a0.size ≤ 70368744177664
 ·
  rw [if_pos hs] at h
  by_cases hp : a0.size % 2 = 0
  ·
   rw [if_pos hp] at h
   have H := Aside0.mk h
   have HS := Aside0.mk hs
   have tp : Int.tmod (a0.size : Int) 2 = 0 := by
    have e : Int.tmod (a0.size : Int) 2 = ((a0.size % 2 : Nat) : Int) := rfl
    rw [e, hp]
    rfl
   have tp2 : (a0.size : Int) % 2 = 0 := by omega
   have kb := fun W => print_bytes (P := Try.prog) 9 47 5 Try.underlying9 Try.underlying47 Try.underlying5 a0 W
   have RB := Aside0.mk (bytes_reads w 5 a0 (by omega))
   have BB := Aside0.mk (bytes_below (Below.refl w.heap.size w) (Nat.le_refl _) 5 a0)
   have SB := Aside0.mk (show (Lib.bytesWorld w 5 a0).heap.size = w.heap.size + 1 from Lib.bytesWorld_size w 5 a0)
   clear h
   go_enter Try.func37, Try.ntmps37
   go_wp2_with fail
   clear kb
   generalize Lib.bytesWorld w 5 a0 = W1 at *
   go_loopw [4, 15] (fun u4 u15 wr => ∃ (i : Nat) (b : List Int) (A : Option Addr) (c : Nat), u15 = .int .i64 i ∧ u4 = .slice A ((i + 1) / 2) c ∧ i ≤ a0.size ∧ Aside0 (wr.ownsRow W1.heap.size 5 1 (.slice A ((i + 1) / 2) c) ((i + 1) / 2) (nums .u8 b)) ∧ Aside0 (Below W1.heap.size W1 wr) ∧ Aside0 (code_Unhex.go 0 (bytesOf a0) [] = code_Unhex.go i ((bytesOf a0).drop i) b)) (fun _ u15 _ => a0.size - (intOf u15).toNat)
   case atStart => exact ⟨0, [], none, 0, rfl, rfl, by omega, ⟨own_nil _ _ _ _⟩, ⟨Below.refl _ _⟩, ⟨rfl⟩⟩
   case round =>
    obtain ⟨i, b, A, cp, rfl, rfl, hi, HQ, HB, HG⟩ := hrel
    have hbl : b.length = (i + 1) / 2 := by
     have := HQ.out.1
     simp [nums] at this
     exact this
    by_cases hlt : i < a0.size
    ·
     have hltI : (i : Int) < (a0.size : Int) := by omega
     obtain ⟨ad, ead, hcell⟩ := RB.out.2.2 (by omega)
     cases ead
     have hc := hcell i hlt
     rw [add_plain] at hc
     replace hc := (HB.out.cell (World.block_lt_of_cell? _ _ hc)).trans hc
     clear hcell
     have hlen : i < (bytesOf a0).length := by rw [bytesOf_length]; exact hlt
     have hdrop : (bytesOf a0).drop i = (bytesOf a0).getD i 0 :: (bytesOf a0).drop (i + 1) := by
      rw [List.getD_eq_getElem?_getD, List.getElem?_eq_getElem hlen]
      exact List.drop_eq_getElem_cons hlen
     rw [hdrop] at HG
     generalize (bytesOf a0).getD i 0 = c at *
     clear hlen hdrop
     have hv := code_Unhex.val_lt c
     have hcall := fun W => strings_IndexByte.same code_Unhex.digits c W
     have hcd : Lib.indexByte code_Unhex.digits.data.toList c.toNat.toUInt8 = code_Unhex.val c := rfl
     rw [hcd] at hcall
     have HC := Aside0.mk hcall
     rw [code_Unhex.go] at HG
     generalize code_Unhex.val c = d at *
     clear hcd hcall
     by_cases hd : d < 0
     · rw [if_pos hd] at HG
       have e1 := H.out
       rw [HG.out] at e1
       simp only [Option.some.injEq, Prod.mk.injEq] at e1
       obtain ⟨rfl, rfl⟩ := e1
       clear H HG
       have hdb : decide (d < 0) = true := decide_eq_true hd
       go_wp2_with (go_at_call 48; refine (HC.out _).mono ?_; rintro e w2 ⟨rfl, hw⟩; (have hw := hw.symm); subst hw)
       go_ret2
       exact ⟨rfl, BB.out.trans (HB.out.mono (by have := SB.out; omega))⟩
     ·
      rw [if_neg hd] at HG
      have hdb : decide (d < 0) = false := decide_eq_false hd
      have ti : Int.tmod (i : Int) 2 = ((i % 2 : Nat) : Int) := rfl
      by_cases hpi : i % 2 = 0
      · rw [if_pos hpi] at HG
        rw [hpi] at ti
        have ti2 : (i : Int) % 2 = 0 := by omega
        have wd : IntKind.i64.wrap (d * 16) = d * 16 := IntWalk.i64_in _ (by omega)
        have BL := Aside0.mk hbl
        have YL : Aside0 ((b ++ [d * 16]).length = (i + 1 + 1) / 2) := ⟨by rw [List.length_append, hbl]; show (i + 1) / 2 + 1 = _; omega⟩
        clear hbl
        go_wp2_with (first | (go_at_call 48; refine (HC.out _).mono ?_; rintro e w2 ⟨rfl, hw⟩; (have hw := hw.symm); subst hw) | ((with_reducible refine gate_builtin (b := .append) (xs := #[.tmp 27, .tmp 31]) rfl ?_); go_must (at_builtin; refine print_append_num (w0 := W1) (W := wr) W1.heap.size rfl (.tmp 27) (.tmp 31) 47 5 .u8 1 rfl Try.underlying47 code_Unhex.info (by decide) (.slice A ((i + 1) / 2) cp) b (d * 16) rfl rfl (by rw [BL.out]; exact HQ.out) HB.out HB.out.size (by rw [BL.out]; have := HS.out; omega) ?_; intro v4 w4 ho hb hg hat; rw [YL.out] at ho; obtain ⟨A4, c4, rfl⟩ := own_slice ho; have HO4 := Aside0.mk ho; have HB4 := Aside0.mk hb; clear ho hb hg hat)))
        go_roundw
        case rel => exact ⟨i + 1, b ++ [d * 16], A4, c4, rfl, rfl, by omega, HO4, HB4, HG⟩
        case measure =>
         simp [intOf]
         omega
      ·
       rw [if_neg hpi] at HG
       have hpi2 : i % 2 = 1 := by omega
       rw [hpi2] at ti
       have ti2 : (i : Int) % 2 = 1 := by omega
       obtain ⟨g, cap, ef, hgb, hgl⟩ := HQ.out.form (by omega)
       cases ef
       have hi2 : (((i + 1) / 2 : Nat) : Int) - 1 = (((i + 1) / 2 - 1 : Nat) : Int) := by omega
       obtain ⟨q1, q2⟩ := own_at HQ.out ((((i + 1) / 2 - 1 : Nat) : Int)) (by omega) (by omega)
       have QS := Aside0.mk (own_store HQ.out ((((i + 1) / 2 - 1 : Nat) : Int)) (IntKind.u8.wrap (rd b ((((i + 1) / 2 - 1 : Nat) : Int)) + IntKind.u8.wrap d)))
       simp only [Int.toNat_natCast] at q1 q2
       have BL := Aside0.mk hbl
       have hm : (i + 1) / 2 - 1 < (i + 1) / 2 := by omega
       have he : (i + 1) / 2 = (i + 1 + 1) / 2 := by omega
       have HE := Aside0.mk he
       clear hbl he
       generalize hM : (i + 1) / 2 - 1 = m at *
       generalize hN : (i + 1) / 2 = n at *
       generalize hR : rd b (m : Int) = x at *
       have wd : IntKind.u8.wrap d = d := by rw [IntKind.wrap_u8]; omega
       go_wp2_with (go_at_call 48; refine (HC.out _).mono ?_; rintro e w2 ⟨rfl, hw⟩; (have hw := hw.symm); subst hw)
       have ew : (x + d) % 256 = IntKind.u8.wrap (x + IntKind.u8.wrap d) := by rw [wd, IntKind.wrap_u8]
       rw [ew]
       have ebl : b.length - 1 = m := by rw [BL.out]; exact hM
       have ebi : (b.length : Int) - 1 = (m : Int) := by rw [BL.out]; exact hi2
       rw [ebl, ebi, hR] at HG
       have QO := QS.out.1
       simp only [Int.toNat_natCast] at QO
       refine ⟨⟨i + 1, b.set m (IntKind.u8.wrap (x + IntKind.u8.wrap d)), some ⟨g, 0, none⟩, cp, rfl, by rw [← HE.out], by omega, ⟨?_⟩, ⟨code_Unhex.below_set HB.out hgb _⟩, HG⟩, ?_⟩
       · rw [← HE.out]
         exact QO
       · simp [intOf]
         omega
    · obtain rfl : i = a0.size := by omega
      have e0 : code_Unhex.go 0 (bytesOf a0) [] = some b := by rw [HG.out, List.drop_eq_nil_of_le (by rw [bytesOf_length]; exact Nat.le_refl _), code_Unhex.go]
      have e1 := H.out
      rw [e0] at e1
      simp only [Option.some.injEq, Prod.mk.injEq] at e1
      obtain ⟨rfl, rfl⟩ := e1
      have hcs := own_string (P := Try.prog) (src := 47) (dst := 9) Try.underlying47 Try.underlying5 Try.underlying9 HQ.out
      clear H HG e0 hbl
      go_wp2_with fail
      go_ret2
      exact ⟨rfl, BB.out.trans (HB.out.mono (by have := SB.out; omega))⟩
  · rw [if_neg hp] at h
    have h' := Option.some.inj h
    simp only [Prod.mk.injEq] at h'
    obtain ⟨rfl, rfl⟩ := h'
    have tp : Int.tmod (a0.size : Int) 2 = 1 := by
     have e : Int.tmod (a0.size : Int) 2 = ((a0.size % 2 : Nat) : Int) := rfl
     rw [e, show a0.size % 2 = 1 by omega]
     rfl
    have tp2 : (a0.size : Int) % 2 = 1 := by omega
    go_enter Try.func37, Try.ntmps37
    go_wp2_with fail
    go_ret2
    exact ⟨rfl, Below.refl _ _⟩
 · rw [if_neg hs] at h
   cases h


end Go.Proofs.Ytgepbdkbleapaaa.M
