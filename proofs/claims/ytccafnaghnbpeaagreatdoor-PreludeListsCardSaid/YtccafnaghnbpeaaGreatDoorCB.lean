/- Functions of Go's library, run by their contracts. -/
import Derived.Test.YtccafnaghnbpeaaGreatDoorCG
import Derived.Test.YtccafnaghnbpeaaGreatDoorCS
set_option linter.all false
namespace Go.Proofs.YtccafnaghnbpeaaGreatDoor
open Go.Abs Go.MapKept Go.RowKit
noncomputable section
set_option maxRecDepth 100000

/-- Of what a library function does: its contract. -/
theorem cm_of_calls {P : Program} {G : Glob} {f : FuncId} {ds : List D} {d : D} (hcall : ∀ args w, (callFunc f args).run P w = .ok (.enter f args) w)
  (h : ∀ (w : World) (S : Cells) (M : Mp) (vs : List Value), G.pred w → S.within w → Rds S M w vs ds → Calls P f vs.toArray w fun e w' => Below w.heap.size w w' ∧ ∃ v S', e = .returned v ∧ S.grown S' w ∧ S'.within w' ∧ Rd S' M w' v d ∧ FrOk S' w w' v d) : CM P G f ds [] (.ret d) [] := by
 refine ⟨hcall, fun w S M vs hg hM hwi hh hvs => (h w S M vs hg hwi hvs).mono fun e w' ⟨hb, v, S', he, h1, h2, h3, h4⟩ => ?_⟩
 exact ⟨⟨hb.os, hb.tape, hb.output, hb.size, fun k hk _ => hb.block k hk⟩, S', h1, h2, ⟨fun id b h => by simp at h, fun id hid => hh.out id (by simp), fun i j x y b k l h => by simp at h⟩, v, he, h3, h4⟩
theorem within_below {S : Cells} {w w' : World} (h : S.within w) (hb : Below w.heap.size w w') : S.within w' := fun b o hS => Nat.lt_of_lt_of_le (h b o hS) hb.size
theorem fr_plain {S : Cells} {w0 w : World} {v : Value} {d : D} (h : ∀ l c z, d ≠ .slice l c (.fr z)) (h2 : ∀ ds, d ≠ .tuple ds) : FrOk S w0 w v d := ⟨fun l c z e => absurd e (h l c z), fun _ ds _ e => absurd e (h2 ds)⟩
theorem str_of {s : ByteArray} {l : List UInt8} (h : s.data.toList = l) : s = ⟨l.toArray⟩ := by subst h; rfl

/-- Whether a string has a byte. -/
def hasB (k : Nat) (l : Nat) : Nat → Bool := Nat.rec (motive := fun _ => Nat → Bool) (fun _ => false) (fun _ ih c => cond (Nat.beq (Nat.mod c 256) k) true (ih (Nat.div c 256))) l
/-- The place of a byte. -/
def idxB (k : Nat) (l : Nat) : Nat → Nat → Int := Nat.rec (motive := fun _ => Nat → Nat → Int) (fun _ _ => -1) (fun _ ih c i => cond (Nat.beq (Nat.mod c 256) k) (Int.ofNat i) (ih (Nat.div c 256) (Nat.succ i))) l
theorem indexByte_ge (l : List UInt8) (c : UInt8) : -1 ≤ Lib.indexByte l c := by
 induction l with
 | nil => simp [Lib.indexByte]
 | cons b l ih => simp only [Lib.indexByte]; split <;> (try split) <;> omega
theorem byte_beq {c k : Nat} (hk : k < 256) : (UInt8.ofNat (c % 256) == UInt8.ofNat k) = Nat.beq (c % 256) k := by
 rw [Bool.eq_iff_iff, beq_iff_eq, Nat.beq_eq]
 constructor
 ·intro h
  have := congrArg UInt8.toNat h
  simp only [UInt8.toNat_ofNat'] at this
  omega
 ·intro h; rw [h]
theorem idxB_eq {k : Nat} (hk : k < 256) : ∀ (l c i : Nat), idxB k l c i = if Lib.indexByte (dec l c) (UInt8.ofNat k) = -1 then -1 else Lib.indexByte (dec l c) (UInt8.ofNat k) + i
 | 0, _, _ => by
  show (-1 : Int) = _
  simp [dec, Lib.indexByte]
 | l + 1, c, i => by
  show cond (Nat.beq (c % 256) k) (Int.ofNat i) (idxB k l (c / 256) (i + 1)) = _
  simp only [dec, Lib.indexByte, byte_beq hk]
  cases Nat.beq (c % 256) k with
  | true => simp
  | false =>
   have := indexByte_ge (dec l (c / 256)) (UInt8.ofNat k)
   simp only [cond_false, idxB_eq hk l, Bool.false_eq_true, if_false, beq_iff_eq]
   by_cases h : Lib.indexByte (dec l (c / 256)) (UInt8.ofNat k) = -1
   ·simp [h]
   ·simp only [h, if_false]
    rw [if_neg (by omega)]
    push_cast
    omega
theorem hasB_eq {k : Nat} (hk : k < 256) : ∀ (l c : Nat), hasB k l c = decide (0 ≤ Lib.indexByte (dec l c) (UInt8.ofNat k))
 | 0, _ => by
  show false = _
  simp [dec, Lib.indexByte]
 | l + 1, c => by
  show cond (Nat.beq (c % 256) k) true (hasB k l (c / 256)) = _
  simp only [dec, Lib.indexByte, byte_beq hk]
  cases Nat.beq (c % 256) k with
  | true => simp
  | false =>
   have := indexByte_ge (dec l (c / 256)) (UInt8.ofNat k)
   simp only [cond_false, hasB_eq hk l, Bool.false_eq_true, if_false, beq_iff_eq]
   by_cases h : Lib.indexByte (dec l (c / 256)) (UInt8.ofNat k) = -1
   ·simp [h]
   ·simp only [h, if_false]
    rw [Bool.eq_iff_iff, decide_eq_true_iff, decide_eq_true_iff]
    omega

/-- strings.ContainsRune, a character of ASCII. -/
def libContains : FunT := fun vs bs => match bs with
 | [] => castL CU [.str, .int .i32] vs fun vs => match vs with
  | [.str l c, .int .i32 r] => Int.rec (motive := fun _ => Om) (fun n => cond (Nat.blt n 128) (some (.ret (.bool (hasB n l c)), [])) none) (fun _ => none) r
  | _ => none
 | _ => none
theorem libContains_ok : FnOk X0 194 libContains := by
 intro vs bs x bs' h hok
 unfold libContains at h
 split at h
 ·obtain ⟨vs', e1, h⟩ := castL_some h
  split at h
  ·rename_i l c r
   cases r with
   | negSucc n => cases h
   | ofNat n =>
    have h : cond (Nat.blt n 128) (some (VRes.ret (.bool (hasB n l c)), ([] : List Bx))) none = some (x, bs') := h
    cases hn : Nat.blt n 128 with
    | false => rw [hn] at h; cases h
    | true =>
     rw [hn] at h
     injection h with h
     injection h with h1 h2
     subst h1 h2
     rw [Nat.blt_eq] at hn
     rw [← e1]
     refine cm_of_calls Tryz.call194 fun w S M us hg hwi hr => ?_
     simp only [List.map_cons, List.map_nil, toD] at hr
     cases hr with
     | cons _ _ _ _ r1 r2 =>
     cases r2 with
     | cons _ _ _ _ r2 r3 =>
     cases r3
     cases r1 with
     | str s _ hs =>
     cases r2
     refine (Any.strings_ContainsRune_ascii Tryz.lays151 s (Int.ofNat n) w (Int.natCast_nonneg n) (by simp only [Int.ofNat_eq_natCast]; omega)).mono ?_
     rintro e w' ⟨rfl, rfl⟩
     refine ⟨Below.refl _ _, _, S, rfl, ⟨fun _ _ h => h, fun _ _ h => .inl h⟩, hwi, ?_, fr_plain (fun _ _ _ h => by simp [toD] at h) (fun _ h => by simp [toD] at h)⟩
     have : (decide (0 ≤ Lib.indexByte s.data.toList (Int.ofNat n).toNat.toUInt8)) = hasB n l c := by
      rw [hasB_eq (by omega), hs]; rfl
     rw [this]
     simp only [toD]
     exact .bool _
  ·cases h
 ·cases h

/-- internal/stringslite.Index, one byte. -/
def libIndex : FunT := fun vs bs => match bs with
 | [] => castL CU [.str, .str] vs fun vs => match vs with
  | [.str l c, .str l2 k] => cond (Nat.beq l2 1) (cond (Nat.blt k 256) (fI (idxB k l c 0) fun r => some (.ret (.int .i64 r), [])) none) none
  | _ => none
 | _ => none
theorem libIndex_ok : FnOk X0 276 libIndex := by
 intro vs bs x bs' h hok
 unfold libIndex at h
 split at h
 ·obtain ⟨vs', e1, h⟩ := castL_some h
  split at h
  ·rename_i l c l2 k
   cases hl : Nat.beq l2 1 with
   | false => rw [hl] at h; cases h
   | true =>
    rw [hl] at h
    have := Nat.eq_of_beq_eq_true hl
    subst this
    cases hn : Nat.blt k 256 with
    | false => rw [hn] at h; cases h
    | true =>
     rw [hn] at h
     rw [Nat.blt_eq] at hn
     simp only [cond_true, fI_eq] at h
     injection h with h
     injection h with h1 h2
     subst h1 h2
     rw [← e1]
     refine cm_of_calls Tryz.call276 fun w S M us hg hwi hr => ?_
     simp only [List.map_cons, List.map_nil, toD] at hr
     cases hr with
     | cons _ _ _ _ r1 r2 =>
     cases r2 with
     | cons _ _ _ _ r2 r3 =>
     cases r3
     cases r1 with
     | str s _ hs =>
     cases r2 with
     | str s2 _ hs2 =>
     have e2 : s2 = ⟨#[UInt8.ofNat (k % 256)]⟩ := by rw [str_of hs2]; rfl
     have e3 : k % 256 = k := Nat.mod_eq_of_lt hn
     rw [e3] at e2
     subst e2
     refine (Any.stringslite_Index_one Tryz.lays219 s (UInt8.ofNat k) w).mono ?_
     rintro e w' ⟨rfl, rfl⟩
     refine ⟨Below.refl _ _, _, S, rfl, ⟨fun _ _ h => h, fun _ _ h => .inl h⟩, hwi, ?_, fr_plain (fun _ _ _ h => by simp [toD] at h) (fun _ h => by simp [toD] at h)⟩
     have : Lib.indexByte s.data.toList (UInt8.ofNat k) = idxB k l c 0 := by
      rw [idxB_eq hn, hs]
      split
      ·assumption
      ·simp
     rw [this]
     simp only [toD]
     exact .int _ _
  ·cases h
 ·cases h

def asciiN (l : List UInt8) : Bool := l.all fun b => Nat.blt b.toNat 128
/-- strings.Trim, a cutset of ASCII. -/
def libTrim : FunT := fun vs bs => match bs with
 | [] => castL CU [.str, .str] vs fun vs => match vs with
  | [.str l c, .str l2 k] => cond (Nat.blt l 4294967281) (cond (Nat.blt l2 4294967281) (cond (asciiN (dec l2 k)) (fN (Lib.trimS (dec l c) (dec l2 k)).length fun m => fN (code (Lib.trimS (dec l c) (dec l2 k))) fun d => some (.ret (.str m d), [])) none) none) none
  | _ => none
 | _ => none
theorem libTrim_ok : FnOk X0 202 libTrim := by
 intro vs bs x bs' h hok
 unfold libTrim at h
 split at h
 ·obtain ⟨vs', e1, h⟩ := castL_some h
  split at h
  ·rename_i l c l2 k
   cases hl : Nat.blt l 4294967281 with
   | false => rw [hl] at h; cases h
   | true =>
   rw [hl] at h
   rw [Nat.blt_eq] at hl
   cases hl2 : Nat.blt l2 4294967281 with
   | false => rw [hl2] at h; cases h
   | true =>
   rw [hl2] at h
   rw [Nat.blt_eq] at hl2
   cases ha : asciiN (dec l2 k) with
   | false => rw [ha] at h; cases h
   | true =>
   rw [ha] at h
   simp only [cond_true, fN_eq] at h
   injection h with h
   injection h with h1 h2
   subst h1 h2
   rw [← e1]
   refine cm_of_calls Tryz.call202 fun w S M us hg hwi hr => ?_
   simp only [List.map_cons, List.map_nil, toD] at hr
   cases hr with
   | cons _ _ _ _ r1 r2 =>
   cases r2 with
   | cons _ _ _ _ r2 r3 =>
   cases r3
   cases r1 with
   | str s _ hs =>
   cases r2 with
   | str s2 _ hs2 =>
   have z1 : s.size = l := by have := congrArg List.length hs; rw [dec_length] at this; simpa using this
   have z2 : s2.size = l2 := by have := congrArg List.length hs2; rw [dec_length] at this; simpa using this
   refine (Any.strings_Trim_laid Tryz.lays160 (by kernel_rfl) s s2 w (by omega) (by omega) (fun j b hb => ?_)).mono ?_
   ·rw [hs2] at hb
    have := List.all_eq_true.1 ha b (List.mem_of_getElem? hb)
    rw [Nat.blt_eq] at this
    exact this
   ·rintro e w' ⟨rfl, hb⟩
    refine ⟨hb, _, S, rfl, ⟨fun _ _ h => h, fun _ _ h => .inl h⟩, within_below hwi hb, ?_, fr_plain (fun _ _ _ h => by simp [toD] at h) (fun _ h => by simp [toD] at h)⟩
    simp only [toD, dec_code]
    refine .str _ _ ?_
    rw [hs, hs2]
  ·cases h
 ·cases h
/-- strings.TrimLeft, a cutset of ASCII. -/
def libTrimLeft : FunT := fun vs bs => match bs with
 | [] => castL CU [.str, .str] vs fun vs => match vs with
  | [.str l c, .str l2 k] => cond (Nat.blt l 4294967281) (cond (Nat.blt l2 4294967281) (cond (asciiN (dec l2 k)) (fN (Lib.trimLeftS (dec l c) (dec l2 k)).length fun m => fN (code (Lib.trimLeftS (dec l c) (dec l2 k))) fun d => some (.ret (.str m d), [])) none) none) none
  | _ => none
 | _ => none
theorem libTrimLeft_ok : FnOk X0 238 libTrimLeft := by
 intro vs bs x bs' h hok
 unfold libTrimLeft at h
 split at h
 ·obtain ⟨vs', e1, h⟩ := castL_some h
  split at h
  ·rename_i l c l2 k
   cases hl : Nat.blt l 4294967281 with
   | false => rw [hl] at h; cases h
   | true =>
   rw [hl] at h
   rw [Nat.blt_eq] at hl
   cases hl2 : Nat.blt l2 4294967281 with
   | false => rw [hl2] at h; cases h
   | true =>
   rw [hl2] at h
   rw [Nat.blt_eq] at hl2
   cases ha : asciiN (dec l2 k) with
   | false => rw [ha] at h; cases h
   | true =>
   rw [ha] at h
   simp only [cond_true, fN_eq] at h
   injection h with h
   injection h with h1 h2
   subst h1 h2
   rw [← e1]
   refine cm_of_calls Tryz.call238 fun w S M us hg hwi hr => ?_
   simp only [List.map_cons, List.map_nil, toD] at hr
   cases hr with
   | cons _ _ _ _ r1 r2 =>
   cases r2 with
   | cons _ _ _ _ r2 r3 =>
   cases r3
   cases r1 with
   | str s _ hs =>
   cases r2 with
   | str s2 _ hs2 =>
   have z1 : s.size = l := by have := congrArg List.length hs; rw [dec_length] at this; simpa using this
   have z2 : s2.size = l2 := by have := congrArg List.length hs2; rw [dec_length] at this; simpa using this
   refine (Any.strings_TrimLeft_laid Tryz.lays161 (by kernel_rfl) s s2 w (by omega) (fun j b hb => ?_)).mono ?_
   ·rw [hs2] at hb
    have := List.all_eq_true.1 ha b (List.mem_of_getElem? hb)
    rw [Nat.blt_eq] at this
    exact this
   ·rintro e w' ⟨rfl, hb⟩
    refine ⟨hb, _, S, rfl, ⟨fun _ _ h => h, fun _ _ h => .inl h⟩, within_below hwi hb, ?_, fr_plain (fun _ _ _ h => by simp [toD] at h) (fun _ h => by simp [toD] at h)⟩
    simp only [toD, dec_code]
    refine .str _ _ ?_
    rw [hs, hs2]
  ·cases h
 ·cases h

/-- strings.Fields, of the names that prelude.Names splits. -/
def fieldsT : Tre Q := (.node (.str 3 7104878) (.node (.str 1 116) (.node (.str 3 7628140) (.node (.str 2 29295) (.node (.str 1 62) (.node (.str 8 8532480098923079012) .nil .nil) (.node (.str 17 37579152221671205238173544792657207785844) .nil .nil)) (.node (.str 11 122651099442545230195420773) (.node (.str 6 111516181425765) .nil .nil) (.node (.str 8 8747795240677370227) .nil .nil))) (.node (.str 1 42) (.node (.str 8 8030590355653420388) (.node (.str 5 431415719271) .nil .nil) (.node (.str 11 122571058513053206090969445) .nil .nil)) (.node (.str 12 33249612810592795105945677417) (.node (.str 6 127970520100457) .nil .nil) (.node (.str 11 122571058227641934735897193) .nil .nil)))) (.node (.str 4 1684959075) (.node (.str 5 182342347116) (.node (.str 6 110425311047777) (.node (.str 5 465490374508) .nil .nil) (.node (.str 6 125762639128940) .nil .nil)) (.node (.str 8 7665812061680985444) (.node (.str 5 495874632040) .nil .nil) (.node (.str 9 1871941851990027560294) .nil .nil))) (.node (.str 1 47) (.node (.str 16 146793563287308389278137555690041144685) (.node (.str 9 1871368777699076565363) .nil .nil) (.node (.str 10 479217114100642154964327) .nil .nil)) (.node (.str 4 1868852853) (.node (.str 12 35713422837776953901583201650) .nil .nil) .nil)))) (.node (.str 5 435745158513) (.node (.str 4 712271212) (.node (.str 4 1953720684) (.node (.str 2 15678) (.node (.str 12 35416027086437465716643226980) .nil .nil) (.node (.str 16 137483774621005110734058729535024820070) .nil .nil)) (.node (.str 9 1871439140975576245604) (.node (.str 7 28548142445324644) .nil .nil) (.node (.str 11 139566875009997741940237668) .nil .nil))) (.node (.str 1 45) (.node (.str 5 474416047460) (.node (.str 7 28554821420279149) .nil .nil) (.node (.str 10 478793197326582454054755) .nil .nil)) (.node (.str 8 7810757299313993060) (.node (.str 7 32780218652715383) .nil .nil) (.node (.str 9 2037169923889335397993) .nil .nil)))) (.node (.str 3 6581857) (.node (.str 1 43) (.node (.str 6 113711144920420) (.node (.str 7 28554735403623780) .nil .nil) (.node (.str 4 1835625573) .nil .nil)) (.node (.str 9 2240301953860894551657) (.node (.str 3 6648693) .nil .nil) (.node (.str 14 2239892019062521052805444961985895) .nil .nil))) (.node (.str 2 15676) (.node (.str 6 120295396894052) (.node (.str 4 1953719666) .nil .nil) (.node (.str 9 2110959713842717749872) .nil .nil)) (.node (.str 11 122571058227094386601518436) (.node (.str 7 28556968888591730) .nil .nil) .nil)))))
def libFields : FunT := fun vs bs => match bs with
 | [] => castL CU [.str] vs fun vs => match vs with
  | [.str l c] => cond (Nat.beq l 477) (cond (Nat.beq c lit0) (some (.ret (.slice fieldsT 1 0 61 .no), [])) none) none
  | _ => none
 | _ => none
theorem fields_eq : (Lib.fields (dec 477 lit0)).map D.str = rows (denT fieldsT) 1 0 61 := by kernel_rfl
theorem fields_len : (Lib.fields (dec 477 lit0)).length = 61 := by kernel_rfl
theorem fields_ascii : asciiN (dec 477 lit0) = true := by kernel_rfl
theorem rds_strs (S : Cells) (M : Mp) (w : World) : ∀ l : List (List UInt8), Rds S M w (l.map fun l => Value.string ⟨l.toArray⟩) (l.map D.str)
 | [] => .nil
 | x :: l => .cons _ _ _ _ (.str _ _ rfl) (rds_strs S M w l)
theorem libFields_ok : FnOk X0 36 libFields := by
 intro vs bs x bs' h hok
 unfold libFields at h
 split at h
 ·obtain ⟨vs', e1, h⟩ := castL_some h
  split at h
  ·rename_i l c
   cases hl : Nat.beq l 477 with
   | false => rw [hl] at h; cases h
   | true =>
   rw [hl] at h
   cases hc : Nat.beq c lit0 with
   | false => rw [hc] at h; cases h
   | true =>
   rw [hc] at h
   have hl := Nat.eq_of_beq_eq_true hl
   have hc := Nat.eq_of_beq_eq_true hc
   subst hl hc
   injection h with h
   injection h with h1 h2
   subst h1 h2
   rw [← e1]
   refine cm_of_calls Tryz.call36 fun w S M us hg hwi hr => ?_
   simp only [List.map_cons, List.map_nil, toD] at hr
   cases hr with
   | cons _ _ _ _ r1 r2 =>
   cases r2
   cases r1 with
   | str s _ hs =>
   have z1 : s.size = 477 := by have := congrArg List.length hs; rw [dec_length] at this; simpa using this
   refine (Any.strings_Fields_laid Tryz.laysM157 s w (by omega) (fun j b hb => ?_) hg.1).mono ?_
   ·rw [hs] at hb
    have := List.all_eq_true.1 fields_ascii b (List.mem_of_getElem? hb)
    rw [Nat.blt_eq] at this
    exact this
   ·rintro e w' ⟨rfl, rfl⟩
    refine ⟨(Below.refl _ _).alloc (Nat.le_refl _) _, _, (fun b o => S b o ∨ b = w.heap.size), rfl, ⟨fun _ _ h => .inl h, fun b o h => h.elim .inl fun h => .inr (by omega)⟩, fun b o h => ?_, ?_, fr_plain (fun _ _ _ h => by simp [toD] at h) (fun _ h => by simp [toD] at h)⟩
    ·show b < (w.heap.push _).size
     rw [Array.size_push]
     rcases h with h | h
     ·have := hwi b o h; omega
     ·omega
    ·rw [hs, fields_len]
     simp only [toD, ← fields_eq]
     refine .slice _ _ _ ((Lib.fields (dec 477 lit0)).map fun l => Value.string ⟨l.toArray⟩) _ _ (.inr ⟨w.heap.size, 0, rfl, fun i v hi => ⟨.inr rfl, ?_⟩⟩) (rds_strs _ _ _ _) trivial (Nat.le_refl _) (fun h => by cases h)
     have hheap : (w.alloc (.cells ((Lib.fields (dec 477 lit0)).map fun l => Value.string ⟨l.toArray⟩).toArray (Tryz.laysM157_ren.t 9))).heap[w.heap.size]? = some (.cells ((Lib.fields (dec 477 lit0)).map fun l => Value.string ⟨l.toArray⟩).toArray (Tryz.laysM157_ren.t 9) (0, 0)) := (Go.MapKept.heap_alloc _ _).1
     unfold World.cell?
     rw [hheap]
     simpa using hi
  ·cases h
 ·cases h

/-- strings.Fields, of the names that primitive.Names splits. -/
def fieldsT2 : Tre Q := (.node (.str 2 26217) (.node (.str 1 51) (.node (.str 1 50) (.node (.str 1 49) (.node (.str 1 49) (.node (.str 1 49) .nil .nil) (.node (.str 1 50) .nil .nil)) (.node (.str 1 50) (.node (.str 1 49) .nil .nil) .nil)) (.node (.str 1 49) (.node (.str 1 49) (.node (.str 1 49) .nil .nil) .nil) (.node (.str 1 49) (.node (.str 1 50) .nil .nil) .nil))) (.node (.str 1 50) (.node (.str 1 49) (.node (.str 1 49) (.node (.str 1 49) .nil .nil) (.node (.str 1 49) .nil .nil)) (.node (.str 1 49) (.node (.str 1 50) .nil .nil) .nil)) (.node (.str 1 49) (.node (.str 1 50) (.node (.str 1 49) .nil .nil) .nil) (.node (.str 1 50) (.node (.str 1 49) .nil .nil) .nil)))) (.node (.str 5 465491554661) (.node (.str 4 1936617315) (.node (.str 3 7496803) (.node (.str 9 2073844980909096591730) (.node (.str 11 138343872958643594702251364) .nil .nil) (.node (.str 11 125040764888893661906237794) .nil .nil)) (.node (.str 7 12716373585260149) (.node (.str 6 121437607456361) .nil .nil) .nil)) (.node (.str 7 31644423040104819) (.node (.str 8 3111276449750739298) (.node (.str 11 122618043001006431572687219) .nil .nil) .nil) (.node (.str 1 60) (.node (.str 13 8275754203313416711865239762035) .nil .nil) .nil))) (.node (.str 3 7496035) (.node (.str 5 482972954467) (.node (.str 8 8102650174351109737) (.node (.str 5 491495844966) .nil .nil) .nil) (.node (.str 7 13279323538681461) (.node (.str 13 7956982234992646578836044149875) .nil .nil) .nil)) (.node (.str 7 31638921304765555) (.node (.str 8 3039218855712811362) (.node (.str 19 2261903658058535744205936875630873591400986995) .nil .nil) .nil) (.node (.str 9 2110959975582353159534) (.node (.str 11 122651541423547657927947379) .nil .nil) .nil)))))
def libFields2 : FunT := fun vs bs => match bs with
 | [] => castL CU [.str] vs fun vs => match vs with
  | [.str l c] => cond (Nat.beq l 267) (cond (Nat.beq c lit1) (some (.ret (.slice fieldsT2 1 0 50 .no), [])) none) none
  | _ => none
 | _ => none
theorem fields_eq2 : (Lib.fields (dec 267 lit1)).map D.str = rows (denT fieldsT2) 1 0 50 := by kernel_rfl
theorem fields_len2 : (Lib.fields (dec 267 lit1)).length = 50 := by kernel_rfl
theorem fields_ascii2 : asciiN (dec 267 lit1) = true := by kernel_rfl
theorem libFields2_ok : FnOk X0 36 libFields2 := by
 intro vs bs x bs' h hok
 unfold libFields2 at h
 split at h
 ·obtain ⟨vs', e1, h⟩ := castL_some h
  split at h
  ·rename_i l c
   cases hl : Nat.beq l 267 with
   | false => rw [hl] at h; cases h
   | true =>
   rw [hl] at h
   cases hc : Nat.beq c lit1 with
   | false => rw [hc] at h; cases h
   | true =>
   rw [hc] at h
   have hl := Nat.eq_of_beq_eq_true hl
   have hc := Nat.eq_of_beq_eq_true hc
   subst hl hc
   injection h with h
   injection h with h1 h2
   subst h1 h2
   rw [← e1]
   refine cm_of_calls Tryz.call36 fun w S M us hg hwi hr => ?_
   simp only [List.map_cons, List.map_nil, toD] at hr
   cases hr with
   | cons _ _ _ _ r1 r2 =>
   cases r2
   cases r1 with
   | str s _ hs =>
   have z1 : s.size = 267 := by have := congrArg List.length hs; rw [dec_length] at this; simpa using this
   refine (Any.strings_Fields_laid Tryz.laysM157 s w (by omega) (fun j b hb => ?_) hg.1).mono ?_
   ·rw [hs] at hb
    have := List.all_eq_true.1 fields_ascii2 b (List.mem_of_getElem? hb)
    rw [Nat.blt_eq] at this
    exact this
   ·rintro e w' ⟨rfl, rfl⟩
    refine ⟨(Below.refl _ _).alloc (Nat.le_refl _) _, _, (fun b o => S b o ∨ b = w.heap.size), rfl, ⟨fun _ _ h => .inl h, fun b o h => h.elim .inl fun h => .inr (by omega)⟩, fun b o h => ?_, ?_, fr_plain (fun _ _ _ h => by simp [toD] at h) (fun _ h => by simp [toD] at h)⟩
    ·show b < (w.heap.push _).size
     rw [Array.size_push]
     rcases h with h | h
     ·have := hwi b o h; omega
     ·omega
    ·rw [hs, fields_len2]
     simp only [toD, ← fields_eq2]
     refine .slice _ _ _ ((Lib.fields (dec 267 lit1)).map fun l => Value.string ⟨l.toArray⟩) _ _ (.inr ⟨w.heap.size, 0, rfl, fun i v hi => ⟨.inr rfl, ?_⟩⟩) (rds_strs _ _ _ _) trivial (Nat.le_refl _) (fun h => by cases h)
     have hheap : (w.alloc (.cells ((Lib.fields (dec 267 lit1)).map fun l => Value.string ⟨l.toArray⟩).toArray (Tryz.laysM157_ren.t 9))).heap[w.heap.size]? = some (.cells ((Lib.fields (dec 267 lit1)).map fun l => Value.string ⟨l.toArray⟩).toArray (Tryz.laysM157_ren.t 9) (0, 0)) := (Go.MapKept.heap_alloc _ _).1
     unfold World.cell?
     rw [hheap]
     simpa using hi
  ·cases h
 ·cases h
end
end Go.Proofs.YtccafnaghnbpeaaGreatDoor
