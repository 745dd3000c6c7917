/- Rules for parts of strings, for concatenation, for failures. -/
import Derived.Test.YtffaodopiifbkaaGreatDoorCP
import Derived.Test.YtffaodopiifbkaaGreatDoorCR5e
import Derived.Test.YtffaodopiifbkaaGreatDoorCS
import Derived.Test.YtffaodopiifbkaaGreatDoorCN
import Derived.Shelf.Strconv.Itoa3
import Derived.Shelf.Small.Strs
import Derived.Shelf.Strings.Runes
import Derived.Shelf.Strings.Search2
import Derived.Shelf.Strings.SlTrimAscii
import Derived.Test.YtffaodopiifbkaaGreatDoorCL0
set_option linter.all false
namespace Go.Abs
theorem pow8 (n : Nat) : 2 ^ (8 * n) = 256 ^ n := by rw [Nat.pow_mul]
theorem code_lt : ∀ s : List UInt8, code s < 256 ^ s.length
 | [] => by simp [code]
 | b :: l => by
  have h1 := code_lt l
  have h2 := b.toNat_lt
  simp only [code, List.length_cons, Nat.pow_succ]
  omega
theorem code_dec : ∀ (l c : Nat), c < 256 ^ l → code (dec l c) = c
 | 0, c, h => by simp at h; subst h; rfl
 | l + 1, c, h => by
  rw [Nat.pow_succ] at h
  simp only [dec, code]
  rw [code_dec l (c / 256) (by omega), UInt8.toNat_ofNat']
  omega
theorem sSub_code {s : List UInt8} {a b : Nat} (h1 : a ≤ b) (h2 : b ≤ s.length) : sSub (code s) a (b - a) = code ((s.take b).drop a) := by
 have h := sSub_eq (c := code s) h1 h2
 rw [dec_code] at h
 rw [h, code_dec]
 unfold sSub
 show Nat.mod _ (1 <<< (8 * (b - a))) < _
 rw [Nat.one_shiftLeft, pow8]
 exact Nat.mod_lt _ (Nat.pow_pos (by decide))
theorem sCat_code (x y : List UInt8) : sCat x.length (code x) (code y) = code (x ++ y) := by
 have h := sCat_eq x.length (code x) y.length (code y)
 rw [dec_code, dec_code] at h
 rw [h, code_dec]
 unfold sCat
 show Nat.mod (code x) (1 <<< (8 * x.length)) + code y <<< (8 * x.length) < _
 rw [Nat.one_shiftLeft, Nat.shiftLeft_eq, pow8, Nat.pow_add]
 have h1 := code_lt y
 have h2 : Nat.mod (code x) (256 ^ x.length) < 256 ^ x.length := Nat.mod_lt _ (Nat.pow_pos (by decide))
 have h3 := Nat.mul_le_mul_right (256 ^ x.length) h1
 rw [Nat.succ_mul] at h3
 rw [Nat.mul_comm (256 ^ x.length)]
 omega
theorem sub_len {s : List UInt8} {a b : Nat} (h1 : a ≤ b) (h2 : b ≤ s.length) : ((s.take b).drop a).length = b - a := by simp; omega
section
variable {U : CombU} {P : VRes → List Bx → Prop}
theorem sSubI {s : List UInt8} {a b : Int} {K : Nat → Nat → Om} (h : 0 ≤ a ∧ a ≤ b ∧ b ≤ s.length) (k : Sat U (K ((s.take b.toNat).drop a.toNat).length (code ((s.take b.toNat).drop a.toNat))) P) :
  Sat U (U.fN (U.nSub (U.iNat b) (U.iNat a)) fun m => U.fN (U.sSub (code s) (U.iNat a) m) fun d => K m d) P := fun e => by
 have := k e
 subst e
 rw [CUfN, CUfN]
 show ∃ v bs, K (iNat b - iNat a) (sSub (code s) (iNat a) (iNat b - iNat a)) = some (v, bs) ∧ P v bs
 rw [iNat_eq, iNat_eq, sSub_code (show a.toNat ≤ b.toNat by omega) (by omega), ← sub_len (s := s) (show a.toNat ≤ b.toNat by omega) (by omega)]
 exact this
theorem sSubN {s : List UInt8} {a : Int} {K : Nat → Nat → Om} (h : 0 ≤ a ∧ a ≤ s.length) (k : Sat U (K (s.drop a.toNat).length (code (s.drop a.toNat))) P) :
  Sat U (U.fN (U.nSub (U.iNat (U.iOfN s.length)) (U.iNat a)) fun m => U.fN (U.sSub (code s) (U.iNat a) m) fun d => K m d) P := fun e => by
 have := k e
 subst e
 refine sSubI (b := (s.length : Int)) ⟨h.1, h.2, Int.le_refl _⟩ ?_ rfl
 rw [Int.toNat_natCast, List.take_length]
 exact fun _ => this
theorem trLeNN {n : Nat} : Says U (U.iLe (U.iOfN n) (U.iOfN n)) (n ≤ n) := fun e => by subst e; exact ⟨fun _ => Nat.le_refl _, fun _ => (trLe (U := CU) rfl).2 (Int.le_refl _)⟩
theorem sfWr32 {e m : Int} {K : Int → Om} (he : e = m) (hr : -2147483648 ≤ m ∧ m < 2147483648) (h : Sat U (K m) P) : Sat U (U.fI (U.wr .i32 e) K) P := fun e' => by
 have := h e'; subst e' he; rw [CUfI]
 show ∃ v bs, K (wr .i32 e) = some (v, bs) ∧ P v bs
 rw [wr_eq, wrap_same .i32 _ (by show _ < ((2147483648 : Nat) : Int); omega) (by show -((2147483648 : Nat) : Int) ≤ _; omega)]
 exact this
theorem sfQuo {a b : Int} {K : Int → Om} (h : Sat U (K (a.tdiv b)) P) : Sat U (U.fI (U.iQuo a b) K) P := fun e => by
 have := h e; subst e; rw [CUfI]
 show ∃ v bs, K (iQuo a b) = some (v, bs) ∧ P v bs
 rw [iQuo_eq]; exact this
theorem sCI0 {k : IntKind} {n : Int} {x : Q} {K : IntKind → Int → Om} (hx : RG (.i k n) x) (h : Sat U (K k n) P) : Sat U (U.cI0 x K) P := fun e => by
 have := h e; subst e; cases hx; exact this
theorem sCI0' {gs : List G} {q : Q} {i : Nat} {k : IntKind} {n : Int} {K : IntKind → Int → Om} (hq : Cel gs q 0) (hi : gs[i]? = some (.i k n)) (h : Sat U (K k n) P) : Sat U (U.cI0 (U.celQ q i) K) P := fun e => by
 subst e; exact sCI0 (by have := hq.get hi; rw [Nat.zero_add] at this; exact this) h rfl
end
end Go.Abs
namespace Go.Proofs.YtffaodopiifbkaaGreatDoor
open Go.Abs LQ
theorem Zq {p q : Prop} (k : q) (h : Tr p q := by ((repeat' (first | (with_reducible apply Tr.all) | (with_reducible intro _) | (apply Tr.b; (case f => first | exact sCons | exact sConsR (by assumption) | exact sNil | exact sNilR (by assumption) | exact sNilB | exact sNilBR (by assumption) | exact sConsB | exact sConsBR (by assumption) | exact sP | exact sPR (by assumption) | exact sIV | exact sI (by assumption) | exact sBV | exact sBK | exact sB (by assumption) | exact sSV | exact sS (by assumption) | exact sA | exact sAR (by assumption) (by rfl) | exact sSlV (by rfl) | exact sSlN (by rfl) | exact sSlTM (by assumption) (by rfl) | exact sSlT (by assumption) (by rfl) | exact sSlM (by assumption) | exact sSl (by assumption) | exact sTu (by assumption) | exact sBo | exact sBoR (by assumption) (by rfl) | exact sBc | exact sBcR (by assumption) | exact sBt | exact sBs | exact sBr | exact sfSub0 (by assumption) | exact sfSub (by assumption) | exact sfCel (by assumption) (by rfl) | exact sCS' (by assumption) (by rfl) | exact sCI' (by assumption) (by rfl) | exact sCB' (by assumption) (by rfl) | exact sCS (by assumption) | exact sCI (by assumption) | exact sCB (by assumption) | exact sfIdxN (by first | omega | (simp only [List.length_map] at *; omega)) | exact sfIdx (by first | omega | (simp only [List.length_map] at *; omega)) | exact sfOfN | exact sSubN (by first | omega | (simp only [List.length_map] at *; omega)) | exact sSubI (by first | omega | (simp only [List.length_map] at *; omega)) | exact sCI0' (by assumption) (by rfl) | exact sCI0 (by assumption) | exact sfAddNI | exact sfSubNI | exact sfNat | exact sfMulI | exact sfAddN | exact sfSubN | exact sfBSelN | exact sfBSelE | exact sfB | exact sJn | exact sCndT | exact sCndF | exact sCndN | exact sCSlM (by assumption) (by (first | exact mapLen O.g_len | exact mapLen (fun _ => rfl))) | exact sCSl (by assumption) (by (first | exact mapLen O.g_len | exact mapLen (fun _ => rfl))) | exact sfWrA (by first | omega | (simp only [List.length_map] at *; omega)) | exact sfWrS (by first | omega | (simp only [List.length_map] at *; omega)) | exact sfTi (by assumption) (by first | assumption | omega | (simp only [List.length_map] at *; omega)) | exact sfT (by assumption) (by rfl))) | (apply Tr.chk; (case ht => (repeat' (first | exact trLeNN | exact trT | exact trF | apply trNot | apply trAnd | exact trLtN | exact trLeN | exact trLt | exact trLe | exact trEq | exact trnLe3 | exact trnLe4 | exact trnLe2 | exact trnLe1 | exact trnLe | exact trnEq | exact trSS | exact trSL | exact trS | exact trV))); (case hp => first | omega | (simp only [List.length_map] at *; omega))) | (apply Tr.cnd; (case ht => (repeat' (first | exact trLeNN | exact trT | exact trF | apply trNot | apply trAnd | exact trLtN | exact trLeN | exact trLt | exact trLe | exact trEq | exact trnLe3 | exact trnLe4 | exact trnLe2 | exact trnLe1 | exact trnLe | exact trnEq | exact trSS | exact trSL | exact trS | exact trV)))))); all_goals exact Tr.refl)) : p := h.go k
end Go.Proofs.YtffaodopiifbkaaGreatDoor
namespace Go.Proofs.YtffaodopiifbkaaGreatDoor
open Go.Abs LQ Go.RowKit
set_option maxRecDepth 100000
set_option maxHeartbeats 4000000
noncomputable section
theorem cm_of_calls {P : Program} {G : Glob} {f : FuncId} {ds : List D} {d : D} (hcall : ∀ args w, (callFunc f args).run P w = .ok (.enter f args) w)
  (h : ∀ (w : World) (S : Cells) (M : Mp) (vs : List Value), G.pred w → S.within w → Rds S M w vs ds → Calls P f vs.toArray w fun e w' => Below w.heap.size w w' ∧ ∃ v S', e = .returned v ∧ S.grown S' w ∧ S'.within w' ∧ Rd S' M w' v d ∧ FrOk S' w w' v d) : CM P G f ds [] (.ret d) [] := by
 refine ⟨hcall, fun w S M vs hg hM hwi hh hvs => (h w S M vs hg hwi hvs).mono fun e w' ⟨hb, v, S', he, h1, h2, h3, h4⟩ => ?_⟩
 exact ⟨⟨hb.os, hb.tape, hb.output, hb.size, fun k hk _ => hb.block k hk⟩, S', h1, h2, ⟨fun id b h => by simp at h, fun id hid => hh.out id (by simp), fun i j x y b k l h => by simp at h⟩, v, he, h3, h4⟩
theorem within_below {S : Cells} {w w' : World} (h : S.within w) (hb : Below w.heap.size w w') : S.within w' := fun b o hS => Nat.lt_of_lt_of_le (h b o hS) hb.size
theorem fr_plain {S : Cells} {w0 w : World} {v : Value} {d : D} (h : ∀ l c z, d ≠ .slice l c (.fr z)) (h2 : ∀ ds, d ≠ .tuple ds) : FrOk S w0 w v d := ⟨fun l c z e => absurd e (h l c z), fun _ ds _ e => absurd e (h2 ds)⟩
theorem str_of {s : ByteArray} {l : List UInt8} (h : s.data.toList = l) : s = ⟨l.toArray⟩ := by subst h; rfl
theorem toD_s {s : Str} {v : V} (h : RV (.c (.s s)) v) : toD v = .str s := by
 cases h with
 | s _ l c h1 h2 => subst h1 h2; simp only [toD, dec_code]
 | q _ x h => cases h with | s _ l c h1 h2 => subst h1 h2; simp [toD, den, single, dec_code]
theorem toD_i {k : IntKind} {n : Int} {v : V} (h : RV (.c (.i k n)) v) : toD v = .int k n := by
 cases h with
 | i => rfl
 | q _ x h => cases h; rfl
theorem toD_ss {s t : Str} {vs : List V} (h : RVs [.c (.s s), .c (.s t)] vs) : vs.map toD = [.str s, .str t] := by
 cases h with | cons _ _ v _ h1 h => cases h with | cons _ _ v' _ h2 h => cases h; simp [toD_s h1, toD_s h2]
theorem toD_si {s : Str} {k : IntKind} {n : Int} {vs : List V} (h : RVs [.c (.s s), .c (.i k n)] vs) : vs.map toD = [.str s, .int k n] := by
 cases h with | cons _ _ v _ h1 h => cases h with | cons _ _ v' _ h2 h => cases h; simp [toD_s h1, toD_i h2]
theorem rd_str {S : Cells} {M : Mp} {w : World} {v : Value} {s : Str} (h : Rd S M w v (.str s)) : v = .string ⟨s.toArray⟩ := by
 cases h with | str b _ hb => rw [str_of hb]
theorem rd_int {S : Cells} {M : Mp} {w : World} {v : Value} {k : IntKind} {n : Int} (h : Rd S M w v (.int k n)) : v = .int k n := by cases h; rfl
theorem rds_ss {S : Cells} {M : Mp} {w : World} {vs : List Value} {s t : Str} (h : Rds S M w vs [.str s, .str t]) : vs = [.string ⟨s.toArray⟩, .string ⟨t.toArray⟩] := by
 cases h with | cons _ _ _ _ h1 h => cases h with | cons _ _ _ _ h2 h => cases h; rw [rd_str h1, rd_str h2]
theorem rds_si {S : Cells} {M : Mp} {w : World} {vs : List Value} {s : Str} {k : IntKind} {n : Int} (h : Rds S M w vs [.str s, .int k n]) : vs = [.string ⟨s.toArray⟩, .int k n] := by
 cases h with | cons _ _ _ _ h1 h => cases h with | cons _ _ _ _ h2 h => cases h; rw [rd_str h1, rd_int h2]
def spSI (k : IntKind) (ok : Str → Int → Prop) (g : Str → Int → GV) : Sp where
 ι := { p : Str × Int // ok p.1 p.2 }
 A p := [.c (.s p.1.1), .c (.i k p.1.2)]
 B _ := []
 R p := .ret (g p.1.1 p.1.2)
 B' _ := []
 inj i j vs bs h k _ _ := by
  obtain ⟨_, _, h1, k1, h, k⟩ := h.two k
  obtain ⟨_, _, h2, k2, h, k⟩ := h.two k
  rw [s_inj h1 k1, i_inj h2 k2]; exact ⟨rfl, rfl⟩
def spSS (ok : Str → Str → Prop) (g : Str → Str → GV) : Sp where
 ι := { p : Str × Str // ok p.1 p.2 }
 A p := [.c (.s p.1.1), .c (.s p.1.2)]
 B _ := []
 R p := .ret (g p.1.1 p.1.2)
 B' _ := []
 inj i j vs bs h k _ _ := by
  obtain ⟨_, _, h1, k1, h, k⟩ := h.two k
  obtain ⟨_, _, h2, k2, h, k⟩ := h.two k
  rw [s_inj h1 k1, s_inj h2 k2]; exact ⟨rfl, rfl⟩
theorem kContains : Know 158 (spSI .i32 (fun _ r => 0 ≤ r ∧ r < 128) fun s r => .c (.b (decide (0 ≤ Lib.indexByte s r.toNat.toUInt8)))) := fun ⟨(s, r), h0, h1⟩ vs bs hv hb => by
 change RVs [.c (.s s), .c (.i .i32 r)] vs at hv
 cases hb
 refine ⟨.ret (.bool (decide (0 ≤ Lib.indexByte s r.toNat.toUInt8))), [], fun hok => ?_, .ret _ _ (.b _), .nil⟩
 rw [toD_si hv]
 refine cm_of_calls (d := .bool (decide (0 ≤ Lib.indexByte s r.toNat.toUInt8))) Tryz.call158 fun w S M us hg hwi hr => ?_
 rw [rds_si hr]
 refine (Any.strings_ContainsRune_ascii Tryz.lays151 ⟨s.toArray⟩ r w h0 h1).mono ?_
 rintro e w' ⟨rfl, rfl⟩
 exact ⟨Below.refl _ _, _, S, rfl, ⟨fun _ _ h => h, fun _ _ h => .inl h⟩, hwi, .bool _, fr_plain (fun _ _ _ h => by cases h) (fun _ h => by cases h)⟩
theorem kIndexByte : Know 159 (spSI .u8 (fun _ r => 0 ≤ r ∧ r < 256) fun s r => .c (.i .i64 (Lib.indexByte s r.toNat.toUInt8))) := fun ⟨(s, r), h0, h1⟩ vs bs hv hb => by
 change RVs [.c (.s s), .c (.i .u8 r)] vs at hv
 cases hb
 refine ⟨.ret (.int .i64 (Lib.indexByte s r.toNat.toUInt8)), [], fun hok => ?_, .ret _ _ (.i _ _), .nil⟩
 rw [toD_si hv]
 refine cm_of_calls (d := .int .i64 (Lib.indexByte s r.toNat.toUInt8)) Tryz.call159 fun w S M us hg hwi hr => ?_
 rw [rds_si hr]
 refine (Any.strings_IndexByte Tryz.lays137 ⟨s.toArray⟩ r w).mono ?_
 rintro e w' ⟨rfl, rfl⟩
 exact ⟨Below.refl _ _, _, S, rfl, ⟨fun _ _ h => h, fun _ _ h => .inl h⟩, hwi, .int _ _, fr_plain (fun _ _ _ h => by cases h) (fun _ h => by cases h)⟩
theorem kIndex1 : Know 123 (spSS (fun _ t => ∃ c, t = [c]) fun s t => .c (.i .i64 (Lib.indexByte s (t.headD 0)))) := fun ⟨(s, t), c, hc⟩ vs bs hv hb => by
 change RVs [.c (.s s), .c (.s t)] vs at hv
 cases hb
 have hc : t = [c] := hc
 subst hc
 refine ⟨.ret (.int .i64 (Lib.indexByte s c)), [], fun hok => ?_, .ret _ _ (.i _ _), .nil⟩
 rw [toD_ss hv]
 refine cm_of_calls (d := .int .i64 (Lib.indexByte s c)) Tryz.call123 fun w S M us hg hwi hr => ?_
 rw [rds_ss hr]
 refine (Any.stringslite_Index_one Tryz.lays219 ⟨s.toArray⟩ c w).mono ?_
 rintro e w' ⟨rfl, rfl⟩
 exact ⟨Below.refl _ _, _, S, rfl, ⟨fun _ _ h => h, fun _ _ h => .inl h⟩, hwi, .int _ _, fr_plain (fun _ _ _ h => by cases h) (fun _ h => by cases h)⟩
def okTrim (s t : Str) : Prop := s.length < 4294967281 ∧ t.length < 4294967281 ∧ ∀ b ∈ t, b.toNat < 128
theorem kTrimS : Know 165 (spSS okTrim fun s t => .c (.s (Lib.trimS s t))) := fun ⟨(s, t), h0, h1, h2⟩ vs bs hv hb => by
 change RVs [.c (.s s), .c (.s t)] vs at hv
 cases hb
 refine ⟨.ret (.str (Lib.trimS s t).length (code (Lib.trimS s t))), [], fun hok => ?_, .ret _ _ (.s _ _ _ rfl rfl), .nil⟩
 rw [toD_ss hv]
 show CM X0.P X0.G _ _ [] (.ret (.str (dec _ (code _)))) []
 rw [dec_code]
 refine cm_of_calls Tryz.call165 fun w S M us hg hwi hr => ?_
 rw [rds_ss hr]
 refine (Any.strings_Trim_laid Tryz.lays160 (by kernel_rfl) ⟨s.toArray⟩ ⟨t.toArray⟩ w (by have h0 : s.length < 4294967281 := h0; simp [ByteArray.size]; omega) (by have h1 : t.length < 4294967281 := h1; simp [ByteArray.size]; omega) (fun j b hb => h2 b (List.mem_of_getElem? hb))).mono ?_
 rintro e w' ⟨rfl, hb⟩
 exact ⟨hb, _, S, rfl, ⟨fun _ _ h => h, fun _ _ h => .inl h⟩, within_below hwi hb, .str _ _ rfl, fr_plain (fun _ _ _ h => by cases h) (fun _ h => by cases h)⟩
theorem kTrimLeftS : Know 192 (spSS okTrim fun s t => .c (.s (Lib.trimLeftS s t))) := fun ⟨(s, t), h0, h1, h2⟩ vs bs hv hb => by
 change RVs [.c (.s s), .c (.s t)] vs at hv
 cases hb
 refine ⟨.ret (.str (Lib.trimLeftS s t).length (code (Lib.trimLeftS s t))), [], fun hok => ?_, .ret _ _ (.s _ _ _ rfl rfl), .nil⟩
 rw [toD_ss hv]
 show CM X0.P X0.G _ _ [] (.ret (.str (dec _ (code _)))) []
 rw [dec_code]
 refine cm_of_calls Tryz.call192 fun w S M us hg hwi hr => ?_
 rw [rds_ss hr]
 refine (Any.strings_TrimLeft_laid Tryz.lays161 (by kernel_rfl) ⟨s.toArray⟩ ⟨t.toArray⟩ w (by have h1 : t.length < 4294967281 := h1; simp [ByteArray.size]; omega) (fun j b hb => h2 b (List.mem_of_getElem? hb))).mono ?_
 rintro e w' ⟨rfl, hb⟩
 exact ⟨hb, _, S, rfl, ⟨fun _ _ h => h, fun _ _ h => .inl h⟩, within_below hwi hb, .str _ _ rfl, fr_plain (fun _ _ _ h => by cases h) (fun _ h => by cases h)⟩
end
end Go.Proofs.YtffaodopiifbkaaGreatDoor
namespace Go.Proofs.YtffaodopiifbkaaGreatDoor
open Go.Abs LQ
set_option maxRecDepth 100000
set_option maxHeartbeats 4000000
noncomputable section
def preS (s t : Str) : Bool := decide (t.length ≤ s.length ∧ s.take t.length = t)
theorem kHasPrefixI : Know 207 (spSS (fun _ _ => True) fun s t => .c (.b (preS s t))) := know (fun fn h => r207_ok h) [] .nil fun U fn hfn ⟨(s, t), _⟩ vs bs hv hb => by
 have hv : RVs [.c (.s s), .c (.s t)] vs := hv
 have hb : RBs [] bs := hb
 show Sat U _ fun v bs' => RRes (.ret (.c (.b (preS s t)))) v ∧ RBs [] bs'
 unfold r207
 (refine Zq ?_;with_reducible repeat' first|intro _|apply aI)
 ·have hl : t.length ≤ s.length := by omega
  exact sRetU fun e => by subst e; exact ⟨.ret _ _ (rvB (by rw [cuS]; unfold preS; simp [hl])), .nil⟩
 ·exact sRet ⟨.ret _ _ (rvK (by unfold preS; rw [decide_eq_false]; omega)), .nil⟩
theorem kHasPrefix : Know 181 (spSS (fun _ _ => True) fun s t => .c (.b (preS s t))) := know (fun fn h => r181_ok h) [(207, _)] (.cons kHasPrefixI .nil) fun U fn hfn ⟨(s, t), _⟩ vs bs hv hb => by
 have hp := hfn 207 _ rfl
 have hv : RVs [.c (.s s), .c (.s t)] vs := hv
 have hb : RBs [] bs := hb
 show Sat U _ fun v bs' => RRes (.ret (.c (.b (preS s t)))) v ∧ RBs [] bs'
 unfold r181
 (refine Zq ?_;with_reducible repeat' first|intro _|apply aI)
 refine sCall hp ⟨(s, t), trivial⟩ (r := .c (.b (preS s t))) rfl Zrv .nil fun _ _ _ _ => ?_
 (refine Zq ?_;with_reducible repeat' first|intro _|apply aI)
 exact sRet ⟨.ret _ _ (.b _), .nil⟩
def cutPre (s t : Str) : Str := if preS s t then s.drop t.length else s
theorem kTrimPrefixI : Know 209 (spSS (fun _ _ => True) fun s t => .c (.s (cutPre s t))) := know (fun fn h => r209_ok h) [(207, _)] (.cons kHasPrefixI .nil) fun U fn hfn ⟨(s, t), _⟩ vs bs hv hb => by
 have hp := hfn 207 _ rfl
 have hv : RVs [.c (.s s), .c (.s t)] vs := hv
 have hb : RBs [] bs := hb
 show Sat U _ fun v bs' => RRes (.ret (.c (.s (cutPre s t)))) v ∧ RBs [] bs'
 unfold r209
 (refine Zq ?_;with_reducible repeat' first|intro _|apply aI)
 refine sCall hp ⟨(s, t), trivial⟩ (r := .c (.b (preS s t))) rfl Zrv .nil fun _ _ hv hb => ?_
 refine sB hv (sNilBR hb ?_)
 have hl : preS s t = true → t.length ≤ s.length := fun h => by simp [preS] at h; exact h.1
 refine sCnd trV (fun h => ?_) fun h => ?_
 ·have hp := h
  have hl := hl h
  (refine Zq ?_;with_reducible repeat' first|intro _|apply aI)
  have e : cutPre s t = s.drop t.length := by unfold cutPre; rw [if_pos hp]
  rw [e, Int.toNat_natCast]
  exact sRet ⟨.ret _ _ (.s _ _ _ rfl rfl), .nil⟩
 ·have e : cutPre s t = s := by unfold cutPre; rw [if_neg h]
  rw [e]
  exact sRet ⟨.ret _ _ (.s _ _ _ rfl rfl), .nil⟩
theorem kTrimPrefix : Know 184 (spSS (fun _ _ => True) fun s t => .c (.s (cutPre s t))) := know (fun fn h => r184_ok h) [(209, _)] (.cons kTrimPrefixI .nil) fun U fn hfn ⟨(s, t), _⟩ vs bs hv hb => by
 have hp := hfn 209 _ rfl
 have hv : RVs [.c (.s s), .c (.s t)] vs := hv
 have hb : RBs [] bs := hb
 show Sat U _ fun v bs' => RRes (.ret (.c (.s (cutPre s t)))) v ∧ RBs [] bs'
 unfold r184
 (refine Zq ?_;with_reducible repeat' first|intro _|apply aI)
 refine sCall hp ⟨(s, t), trivial⟩ (r := .c (.s (cutPre s t))) rfl Zrv .nil fun _ _ _ _ => ?_
 (refine Zq ?_;with_reducible repeat' first|intro _|apply aI)
 exact sRet ⟨.ret _ _ (.s _ _ _ rfl rfl), .nil⟩
theorem indexByte_lt (s : Str) (c : UInt8) : Lib.indexByte s c < s.length ∧ -1 ≤ Lib.indexByte s c := by
 induction s with
 | nil => simp [Lib.indexByte]
 | cons b l ih =>
  simp only [Lib.indexByte, List.length_cons]
  split
  ·omega
  ·split <;> omega
def cutB (s : Str) (c : UInt8) : Str × Str × Bool := if 0 ≤ Lib.indexByte s c then (s.take (Lib.indexByte s c).toNat, s.drop (Lib.indexByte s c + 1).toNat, true) else (s, [], false)
def spCut : Sp := spSS (fun s t => s.length < 90000 ∧ ∃ c, t = [c]) fun s t => .t [.c (.s (cutB s (t.headD 0)).1), .c (.s (cutB s (t.headD 0)).2.1), .c (.b (cutB s (t.headD 0)).2.2)]
theorem kCutI : Know 208 spCut := know (fun fn h => r208_ok h) [(123, _)] (.cons kIndex1 .nil) fun U fn hfn ⟨(s, t), hs, c, hc⟩ vs bs hv hb => by
 have hp := hfn 123 _ rfl
 have hv : RVs [.c (.s s), .c (.s t)] vs := hv
 have hb : RBs [] bs := hb
 have hc : t = [c] := hc
 have hs : s.length < 90000 := hs
 subst hc
 show Sat U _ fun v bs' => RRes (.ret (.t [.c (.s (cutB s c).1), .c (.s (cutB s c).2.1), .c (.b (cutB s c).2.2)])) v ∧ RBs [] bs'
 unfold r208
 (refine Zq ?_;with_reducible repeat' first|intro _|apply aI)
 refine sCall hp ⟨(s, [c]), c, rfl⟩ (r := .c (.i .i64 (Lib.indexByte s c))) rfl Zrv .nil fun _ _ _ _ => ?_
 have hi := indexByte_lt s c
 have e1 : (([c] : Str).length : Int) = 1 := rfl
 (refine Zq ?_;with_reducible repeat' first|intro _|apply aI)
 ·have h0 := ‹0 ≤ Lib.indexByte s c›
  have e : cutB s c = (s.take (Lib.indexByte s c).toNat, s.drop (Lib.indexByte s c + 1).toNat, true) := by unfold cutB; rw [if_pos h0]
  rw [e]
  simp only [Int.toNat_zero, List.drop_zero, e1]
  exact sRet ⟨.ret _ _ Zrv, .nil⟩
 ·have e : cutB s c = (s, [], false) := by unfold cutB; rw [if_neg ‹_›]
  rw [e]
  exact sRet ⟨.ret _ _ Zrv, .nil⟩
theorem kCut : Know 182 spCut := know (fun fn h => r182_ok h) [(208, _)] (.cons kCutI .nil) fun U fn hfn ⟨(s, t), hs, c, hc⟩ vs bs hv hb => by
 have hp := hfn 208 _ rfl
 have hv : RVs [.c (.s s), .c (.s t)] vs := hv
 have hb : RBs [] bs := hb
 have hc : t = [c] := hc
 subst hc
 show Sat U _ fun v bs' => RRes (.ret (.t [.c (.s (cutB s c).1), .c (.s (cutB s c).2.1), .c (.b (cutB s c).2.2)])) v ∧ RBs [] bs'
 unfold r182
 (refine Zq ?_;with_reducible repeat' first|intro _|apply aI)
 refine sCall hp ⟨(s, [c]), hs, c, rfl⟩ (r := .t [.c (.s (cutB s c).1), .c (.s (cutB s c).2.1), .c (.b (cutB s c).2.2)]) rfl Zrv .nil fun _ _ _ _ => ?_
 (refine Zq ?_;with_reducible repeat' first|intro _|apply aI)
 exact sRet ⟨.ret _ _ Zrv, .nil⟩
theorem constit_idx (c : Int) (h1 : 32 < c) (h2 : c < 127) : (!(decide (0 ≤ Lib.indexByte (dec 7 16462142067124520) c.toNat.toUInt8))) = constit c := by
 obtain ⟨n, rfl⟩ : ∃ n : Nat, c = n := ⟨c.toNat, by omega⟩
 rw [Int.toNat_natCast]
 have h3 : n < 127 := by omega
 have h4 : 32 < n := by omega
 have key : ∀ n : Fin 127, 32 < n.1 → (!(decide (0 ≤ Lib.indexByte (dec 7 16462142067124520) n.1.toUInt8))) = constit n.1 := by decide
 exact key ⟨n, h3⟩ h4
def spByte (g : Int → GV) : Sp where
 ι := { c : Int // 0 ≤ c ∧ c < 256 }
 A c := [.c (.i .u8 c.1)]
 B _ := []
 R c := .ret (g c.1)
 B' _ := []
 inj i j vs bs h k _ _ := by
  obtain ⟨_, _, h1, k1, h, k⟩ := h.two k
  rw [i_inj h1 k1]; exact ⟨rfl, rfl⟩
theorem kConstit : Know 138 (spByte fun c => .c (.b (constit c))) := know (fun fn h => r138_ok h) [(158, _)] (.cons kContains .nil) fun U fn hfn ⟨c, h0, h1⟩ vs bs hv hb => by
 have hp := hfn 158 _ rfl
 have hv : RVs [.c (.i .u8 c)] vs := hv
 have hb : RBs [] bs := hb
 show Sat U _ fun v bs' => RRes (.ret (.c (.b (constit c)))) v ∧ RBs [] bs'
 unfold r138
 (refine Zx ?_;with_reducible repeat' first|intro _|apply aI)
 ·refine sfWr32 (m := c) rfl (by omega) ?_
  refine sCall hp ⟨(dec 7 16462142067124520, c), by omega, by omega⟩ (r := .c (.b (decide (0 ≤ Lib.indexByte (dec 7 16462142067124520) c.toNat.toUInt8)))) rfl Zrv .nil fun _ _ _ _ => ?_
  (refine Zx ?_;with_reducible repeat' first|intro _|apply aI)
  exact sRetU fun e => by subst e; exact ⟨.ret _ _ (rvB (by rw [cuNot, constit_idx c (by omega) (by omega)])), .nil⟩
 ·exact sRet ⟨.ret _ _ (rvK (by simp [constit]; omega)), .nil⟩
 ·exact sRet ⟨.ret _ _ (rvK (by simp [constit]; omega)), .nil⟩
end
end Go.Proofs.YtffaodopiifbkaaGreatDoor
namespace Go.Proofs.YtffaodopiifbkaaGreatDoor
open Go.Abs LQ
set_option maxRecDepth 100000
set_option maxHeartbeats 4000000
noncomputable section
theorem RB.bx {gs : List G} {q : Q} {m : Nat} (h : Cel gs q 0) (hm : m = gs.length) : RBs [gs] [.opa q m] := .cons _ _ _ _ (.opa _ _ _ hm h) .nil
def scG (s : Str) (i : Nat) : List G := [.s s, .i .i64 (i : Int)]
theorem scG_inj {s t : Str} {i j : Nat} (h : scG s i = scG t j) : s = t ∧ i = j := by
 simp only [scG, List.cons.injEq, G.s.injEq, G.i.injEq, and_true, true_and] at h
 exact ⟨h.1, by omega⟩
theorem RBs.one_inj {g g' : List G} {bs : List Bx} (h : RBs [g] bs) (k : RBs [g'] bs) : g = g' := by
 cases h with | cons _ _ b _ h1 _ => cases k with | cons _ _ _ _ k1 _ => exact h1.inj k1
abbrev ScI := { p : Str × Nat // p.2 ≤ p.1.length ∧ p.1.length < 90000 }
def spSc (R : Str → Nat → GRes) (b : Str → Nat → Nat) : Sp where
 ι := ScI
 A _ := [.p 0 0]
 B p := [scG p.1.1 p.1.2]
 R p := R p.1.1 p.1.2
 B' p := [scG p.1.1 (b p.1.1 p.1.2)]
 inj i j vs bs _ _ h k := by
  have := scG_inj (RBs.one_inj h k)
  rw [this.1, this.2]; exact ⟨rfl, rfl⟩
def spScS (R : Str → Nat → Str → GRes) : Sp where
 ι := ScI × Str
 A p := [.p 0 0, .c (.s p.2)]
 B p := [scG p.1.1.1 p.1.1.2]
 R p := R p.1.1.1 p.1.1.2 p.2
 B' p := [scG p.1.1.1 p.1.1.2]
 inj i j vs bs hv kv h k := by
  have := scG_inj (RBs.one_inj h k)
  obtain ⟨_, _, _, _, hv, kv⟩ := hv.two kv
  obtain ⟨_, _, h2, k2, _, _⟩ := hv.two kv
  rw [this.1, this.2, s_inj h2 k2]; exact ⟨rfl, rfl⟩
theorem scQ {U : CombU} (e : U = CU) {s : Str} {j : Int} {k : Nat} {x : Q} (h : Cel [.s s, .i .i64 j] x 0) {n : Int} (hn : n = (k : Int)) : RBs [scG s k] [.cells [.q (U.celQ x 0), .int .i64 n]] := by
 subst e hn
 exact .cons _ _ _ _ (.cells _ _ (.cons _ _ _ _ (.q _ _ (Cel.at h rfl)) (.cons _ _ _ _ (.i _ _) .nil))) .nil
theorem scC {s : Str} {k : Nat} {n : Int} (hn : n = (k : Int)) : RBs [scG s k] [.cells [.str s.length (code s), .int .i64 n]] := by
 subst hn
 exact .cons _ _ _ _ (.cells _ _ (.cons _ _ _ _ (.s _ _ _ rfl rfl) (.cons _ _ _ _ (.i _ _) .nil))) .nil
theorem we_in {s : Str} {j : Nat} (h : j < s.length) (hc : constit (bt s j) = true) : wordEnd s j = wordEnd s (j + 1) := by rw [wordEnd, if_pos h, if_pos hc]
theorem we_out {s : Str} {j : Nat} (h : j < s.length) (hc : ¬ constit (bt s j) = true) : wordEnd s j = j := by rw [wordEnd, if_pos h, if_neg hc]
theorem we_end {s : Str} {j : Nat} (h : ¬ j < s.length) : wordEnd s j = j := by rw [wordEnd, if_neg h]
theorem kMore : Know 135 (spSc (fun s i => .ret (.c (.b (decide (i < s.length))))) fun _ i => i) := know (fun fn h => r135_ok h) [] .nil fun U fn hfn ⟨(s, i), h1, h2⟩ vs bs hv hb => by
 have hv : RVs [.p 0 0] vs := hv
 have hb : RBs [[.s s, .i .i64 (i : Int)]] bs := hb
 show Sat U _ fun v bs' => RRes (.ret (.c (.b (decide (i < s.length))))) v ∧ RBs [scG s i] bs'
 unfold r135
 (refine Zq ?_;with_reducible repeat' first|intro _|apply aI)
 exact sRetU fun e => by subst e; exact ⟨.ret _ _ (rvB (by rw [cuLt]; simp)), .cons _ _ _ _ (.cells _ _ Zrv) .nil⟩
theorem kStarts : Know 160 (spScS fun s i p => .ret (.c (.b (preS (s.drop i) p)))) := know (fun fn h => r160_ok h) [(181, _)] (.cons kHasPrefix .nil) fun U fn hfn ⟨⟨(s, i), h1, h2⟩, p⟩ vs bs hv hb => by
 have hp := hfn 181 _ rfl
 have hv : RVs [.p 0 0, .c (.s p)] vs := hv
 have hb : RBs [[.s s, .i .i64 (i : Int)]] bs := hb
 have h1 : i ≤ s.length := h1
 show Sat U _ fun v bs' => RRes (.ret (.c (.b (preS (s.drop i) p)))) v ∧ RBs [scG s i] bs'
 unfold r160
 (refine Zq ?_;with_reducible repeat' first|intro _|apply aI)
 rw [Int.toNat_natCast]
 refine sCall hp ⟨(s.drop i, p), trivial⟩ (r := .c (.b (preS (s.drop i) p))) rfl Zrv .nil fun _ _ _ _ => ?_
 (refine Zq ?_;with_reducible repeat' first|intro _|apply aI)
 exact sRet ⟨.ret _ _ (.b _), .cons _ _ _ _ (.cells _ _ Zrv) .nil⟩
def wordT (s : Str) (i : Nat) : Str := (s.take (wordEnd s i)).drop i
theorem kWord : Know 140 (spSc (fun s i => .ret (.c (.s (wordT s i)))) wordEnd) := know (fun fn h => r140_ok h) [(135, _), (138, _)] (.cons kMore (.cons kConstit .nil)) fun U fn hfn ⟨(s, i), h1, h2⟩ vs bs hv hb => by
 have hm := hfn 135 _ rfl
 have hc := hfn 138 _ rfl
 have hv : RVs [.p 0 0] vs := hv
 have hb : RBs [[.s s, .i .i64 (i : Int)]] bs := hb
 have h1 : i ≤ s.length := h1
 have h2 : s.length < 90000 := h2
 show Sat U _ fun v bs' => RRes (.ret (.c (.s (wordT s i)))) v ∧ RBs [scG s (wordEnd s i)] bs'
 unfold r140
 (refine Zq ?_;with_reducible repeat' first|intro _|apply aI)
 refine sLp (fun (j : Nat) vs bs => vs = [.ptr 0 0, .int .i64 i] ∧ RBs [scG s j] bs ∧ i ≤ j ∧ j ≤ s.length ∧ wordEnd s j = wordEnd s i) (fun j => s.length - j) i ⟨rfl, .cons _ _ _ _ (.cells _ _ Zrv) .nil, Nat.le_refl _, h1, rfl⟩ (by simp only [FUEL]; omega) ?_
 rintro self j vs bs ⟨rfl, hb, hij, hj, he⟩ ih
 have hb : RBs [[.s s, .i .i64 (j : Int)]] bs := hb
 (refine Zq ?_;with_reducible repeat' first|intro _|apply aI)
 refine sCall hm ⟨(s, j), hj, h2⟩ (r := .c (.b (decide (j < s.length)))) rfl Zrv (RB.bx (by assumption) rfl) fun _ _ _ hb => ?_
 have hb : RBs [[.s s, .i .i64 (j : Int)]] _ := hb
 (refine Zq ?_;with_reducible repeat' first|intro _|apply aI)
 ·have hlt : j < s.length := of_decide_eq_true ‹_›
  have hbt : ((s.getD j 0).toNat : Int) = bt s j := rfl
  have hb0 := bt_nonneg s j
  have hb1 := bt_lt s j
  (refine Zq ?_;with_reducible repeat' first|intro _|apply aI)
  refine sCall hc ⟨bt s j, hb0, hb1⟩ (r := .c (.b (constit (bt s j)))) rfl Zrv .nil fun _ _ _ _ => ?_
  (refine Zq ?_;with_reducible repeat' first|intro _|apply aI)
  ·exact fun e => ih (j + 1) _ _ ⟨rfl, scQ e (by assumption) (by omega), by omega, by omega, by rw [← we_in hlt ‹_›]; exact he⟩ (by omega) e
  ·have e := we_out hlt ‹_›
   rw [Int.toNat_natCast, Int.toNat_natCast]
   have ew : wordT s i = (s.take j).drop i := by unfold wordT; rw [← he, e]
   rw [ew, ← he, e]
   exact sRet ⟨.ret _ _ (.s _ _ _ rfl rfl), RB.bx (by assumption) rfl⟩
 ·have hlt : ¬ j < s.length := fun h => ‹¬ decide (j < s.length) = true› (decide_eq_true h)
  (refine Zq ?_;with_reducible repeat' first|intro _|apply aI)
  have e := we_end hlt
  rw [Int.toNat_natCast, Int.toNat_natCast]
  have ew : wordT s i = (s.take j).drop i := by unfold wordT; rw [← he, e]
  rw [ew, ← he, e]
  exact sRet ⟨.ret _ _ (.s _ _ _ rfl rfl), RB.bx (by assumption) rfl⟩
end
end Go.Proofs.YtffaodopiifbkaaGreatDoor
