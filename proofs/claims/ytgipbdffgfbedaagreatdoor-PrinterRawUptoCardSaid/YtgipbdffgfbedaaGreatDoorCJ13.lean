/- reader.Tokens, reader.Read: what is known. -/
import Derived.Test.YtgipbdffgfbedaaGreatDoorCJ11
import Derived.Test.YtgipbdffgfbedaaGreatDoorCJ12
import Derived.Test.YtgipbdffgfbedaaGreatDoorCJ8
set_option linter.all false
namespace Go.Proofs.YtgipbdffgfbedaaGreatDoor
open Go.Abs LQ
set_option maxRecDepth 100000
set_option maxHeartbeats 400000
noncomputable section
def d3z (e p:Int):GV:=.a [.i .i64 e,.i .i64 p]
theorem d2c (e p:Int):RV (d3z e p) (.agg [.int .i64 e,.int .i64 p]):=.ag _ _ (.k (.i _ _) (.k (.i _ _) .nil))
theorem c97 {bs:List Bx} (h:RBs [] bs):bs=[]:=by cases h;rfl
theorem e6f {S:k8} {M:Mp} {w:World}:Rd S M w (.slice none 0 0) (.slice 0 [] .no):=.slice none 0 0 [] [] .no (.inl rfl) .nil trivial (Nat.le_refl _) (fun _=>rfl)
theorem d8u {S:k8} {w0 w:World} {v:Value} {d:D} {e p:Int} (hd:∀ l c z,d ≠ .slice l c (.fr z)):a2y S w0 w v (.tuple [d,b6h e p]) :=
 ⟨fun l c z h=>(by cases h),fun vs ds _ h2 i u x _ hx=>by
  injection h2 with h2
  subst h2
  match i,hx with
  | 0,hx=>simp at hx;subst hx;exact fun l c z h=>absurd h (hd l c z)
  | 1,hx=>simp at hx;subst hx;exact fun l c z h=>by cases h
  | i+2,hx=>simp at hx⟩
def c9w:Except (Int × Nat) (List A8)→o8
 | .ok T=>.ret (.t [.sl 5 (T.map R8),d3z 0 0])
 | .error (e,p)=>.ret (.t [.sl 5 [],d3z e p])
def c3l:Sp where
 ι:={ s:f6 // s.length < 1920000 }
 A s:=[.c (.s s.1)]
 B _:=[]
 R s:=c9w (E6 s.1)
 B' _:=[]
 inj i j vs bs h k _ _:=by
  obtain ⟨_,_,h1,k1,h,k⟩:=h.two k
  rw [F5 h1 k1];exact ⟨rfl,rfl⟩
theorem d22 (vs:List Value) (w:World) (R:Ending→World→Prop) (hl:vs.length=1) (h:∀ w1,w1=w.alloc M9∨w1=(w.alloc M9).drew→Calls Tryz.prog 89 vs.toArray w1 (c0o w.heap.size (fun _=>True) (fun v e=>.tuple #[v,e]) (.slice none 0 0) R)):Calls Tryz.prog 75 vs.toArray w R:=by
 obtain ⟨v0,rfl⟩:=List.length_eq_one_iff.1 hl
 exact c49 h
theorem b9b {ds:List D} {r r':V2} (h1:ds.length=1) (hn:∀ d,r=.ret d→∀ l c z,d ≠ .slice l c (.fr z)) (hcm:CM Tryz.prog GG 89 ds [] r []) (hr:a4a (fun d e=>.tuple [d,e]) (.slice 0 [] .no) r=some r'):CM Tryz.prog GG 75 ds [] r' [] :=
 d0a (f:=75) (g:=89) (dval:=fun d e=>.tuple [d,e]) (nild:=.slice 0 [] .no) (ok:=fun _=>True) (val:=fun v e=>.tuple #[v,e]) (nilv:=.slice none 0 0) Tryz.call75
  (fun vs w R hl h=>d22 vs w R (hl.trans h1) h)
  (fun S w v d e p _ hd=>.tuple _ _ (.k hd (.k (e6d e p) .nil)))
  (fun _ _ _ _ _ _=>trivial) (fun _ _=>e6f)
  (fun S w0 w v d e p h=>d8u (h.elim (fun h l c z e=>by rw [h] at e;cases e) (hn d))) hcm hr
theorem d9b (hk:j4 89 c3k):j4 75 c3l:=fun ⟨s,hs⟩ vs bs hv hb=>by
 obtain ⟨v,bs',ha,hr,hb'⟩:=hk ⟨s,hs⟩ vs bs hv hb
 have e1:=c97 hb
 have e2:=c97 hb'
 subst e1 e2
 have hcm:=ha rfl
 have hl:(vs.map toD).length=1:=by rw [List.length_map,← j6.length hv];rfl
 change j7 (c9v (E6 s)) v at hr
 show ∃ v bs',c0n 75 vs [] v bs'∧j7 (c9w (E6 s)) v∧RBs [] bs'
 cases hx:E6 s with
 | ok T =>
  rw [hx] at hr
  cases hr with
  | ret _ v0 h0 =>
  refine ⟨.ret (.tuple [v0,.agg [.int .i64 0,.int .i64 0]]),[],fun _=>?_,.ret _ _ (.t _ _ (.k h0 (.k (d2c 0 0) .nil))),.nil⟩
  refine b9b hl (fun d e l c z h=>?_) hcm rfl
  injection e with e
  rw [← e,h0.toD] at h
  cases h
 | error ep =>
  obtain ⟨e,p⟩:=ep
  rw [hx] at hr
  cases hr with
  | pan _ v0 h0 =>
  refine ⟨.ret (.tuple [.slice .nil 0 0 0 .no,.agg [.int .i64 e,.int .i64 p]]),[],fun _=>?_,.ret _ _ (.t _ _ (.k (.sl0 _ _ _) (.k (d2c e p) .nil))),.nil⟩
  refine b9b hl (fun d e=>by cases e) hcm ?_
  show a4a _ _ (.pan (toD v0))=_
  rw [h0.toD]
  simp only [dV,a4a,if_true]
  rfl
end
end Go.Proofs.YtgipbdffgfbedaaGreatDoor
