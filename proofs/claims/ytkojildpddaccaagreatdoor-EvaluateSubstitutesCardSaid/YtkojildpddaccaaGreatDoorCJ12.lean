/- The program's evaluator: the functions of a world, kept in a map. -/
import Derived.Test.YtkojildpddaccaaGreatDoorCJ11
set_option linter.all false
namespace Go.Proofs.YtkojildpddaccaaGreatDoor
open Go.Abs LQ
set_option maxRecDepth 100000
set_option maxHeartbeats 8000000
noncomputable section
theorem Zm {p q:Prop} (k:q) (h:Tr p q:=by ((repeat' (first | (with_reducible apply Tr.all) | (with_reducible intro _) | (apply Tr.b;(case f=>first | exact d2d dE | exact d2c dE | exact d86 (by rfl) | exact c3j (by rfl) | exact sCndBandT | exact a3x | exact Z4 aS | exact b7j | exact b1g aS | exact b45 | exact a4q aS | exact a9w | exact a9x aS | exact sP | exact sPR aS | exact sMp | exact g9u | exact sIV | exact sI aS | exact sBV | exact sBK | exact sB aS | exact sSV | exact sS aS | exact sA | exact H3 aS (by rfl) | exact b7k (by rfl) | exact c1p (by rfl) | exact b9o aS (by rfl) | exact c1q aS (by rfl) | exact c1o aS | exact sSl aS | exact sTu aS | exact sBo | exact Y8 aS (by rfl) | exact sBc | exact c8h aS | exact sBt | exact sBs | exact sBr | exact a2u aS | exact b48 aS | exact T3 aS (by rfl) | exact c8j aS (by rfl) | exact sCI' aS (by rfl) | exact sCB' aS (by rfl) | exact sCS aS | exact sCI aS | exact sCB aS | exact b3r (by first | omega | (simp only [List.length_map] at *;omega)) | exact b47 (by first | omega | (simp only [List.length_map] at *;omega)) | exact b9r | exact a90 | exact a93 | exact b9q | exact b3s | exact b3q | exact sfSubN | exact a92 | exact a91 | exact sfB | exact sJn | exact b9n | exact b9l | exact b9m | exact F1 aS (by (first | exact B7 O.g_len | exact B7 (fun _=>rfl))) | exact a83 aS (by (first | exact B7 O.g_len | exact B7 (fun _=>rfl))) | exact b9s (by first | omega | (simp only [List.length_map] at *;omega)) | exact b49 (by first | omega | (simp only [List.length_map] at *;omega)) | exact c8n aS (by first | assumption | omega | (simp only [List.length_map] at *;omega)) | exact sfT aS (by rfl))) | (apply Tr.chk;(case ht=>(repeat' (first | exact trT | exact trF | apply a32 | apply a3z | exact a31 | exact a30 | exact a43 | exact a42 | exact a41 | exact a1l | exact a1m | exact a1k | exact a1j | exact a1r | exact a33 | exact a87 | exact a68 | exact trS | exact trV)));(case hp=>first | omega | (simp only [List.length_map] at *;omega))) | (apply Tr.cnd;(case ht=>(repeat' (first | exact trT | exact trF | apply a32 | apply a3z | exact a31 | exact a30 | exact a43 | exact a42 | exact a41 | exact a1l | exact a1m | exact a1k | exact a1j | exact a1r | exact a33 | exact a87 | exact a68 | exact trS | exact trV))))));all_goals exact Tr.refl)):p:=h.go k
def a6e (L:List (List F)) (l:List V):Prop:=∃ ks vs,a2f ks vs l∧∀ s g,a0m ks vs s=some g→∃ f,L9 L s=some f∧g=f.g
theorem d5k (L:List (List F)):a6e L []:=⟨[],[],.nil,fun _ _ h=>by simp [a0m] at h⟩
theorem c8e:∀ {ss:List Sy} {gs:List (List G)} {l:List V},a2f ss gs l→ss.length=gs.length
 | _,_,_,.nil=>rfl
 | _,_,_,.cons _ _ _ _ _ _ _ _ _ h=>by simp [c8e h]
theorem c2p {s k:Sy} {g g':List G}:∀ {ss:List Sy} {gs:List (List G)},ss.length=gs.length→a0m (ss ++ [s]) (gs ++ [g]) k=some g'→a0m ss gs k=some g'∨(k=s∧g'=g)
 | [],[],_,h=>by
  simp only [List.nil_append,a0m] at h;split at h
  ·rename_i e;injection h with h;exact .inr ⟨e,h.symm⟩
  ·cases h
 | [],_ :: _,h,_=>by simp at h
 | _ :: _,[],h,_=>by simp at h
 | a :: ss,b :: gs,hl,h=>by
  simp only [List.cons_append,a0m] at h ⊢;split at h
  ·rename_i e;rw [if_pos e];exact .inl h
  ·rename_i e;rw [if_neg e];exact c2p (by simpa using hl) h
theorem d2y {L:List (List F)} {ks:List Sy} {vs:List (List G)} {s:Sy} {f:F} {l l':List V} (hm:a2f ks vs l) (hc:∀ s g,a0m ks vs s=some g→∃ f,L9 L s=some f∧g=f.g) (hf:L9 L s=some f) (h:a2f (ks ++ [s]) (vs ++ [f.g]) l'):a6e L l' :=
 ⟨_,_,h,fun k g e=>by
  rcases c2p (c8e hm) e with e | ⟨rfl,rfl⟩
  ·exact hc _ _ e
  ·exact ⟨f,hf,rfl⟩⟩
abbrev eB (w:List Et) (L:List (List F)) (S u:Int):List (List G):=[[.l (w.map Et.g),.mp 1,.i .i64 S,.i .i64 u],[.m (a6e L)]]
theorem c6g {w w':List Et} {L L':List (List F)} {S u S' u':Int} {bs:List Bx} (h:u0 (eB w L S u) bs) (k:u0 (eB w' L' S' u') bs):w.map Et.g=w'.map Et.g∧S=S'∧u=u':=by
 cases h with
 | cons _ _ b bs h1 _ =>
  cases k with
  | cons _ _ _ _ k1 _ =>
   have:=RB.injM (fun p e=>by cases e) h1 k1;simp only [List.cons.injEq,G.l.injEq,G.i.injEq,true_and,and_true] at this;exact this
section
variable {U:C3} {P:K0→List Bx→Prop}
theorem d4s {g:G} {gs:List G} {cs:List V} (h:RCs (g :: gs) cs) (hg:g.pl=true):∃ v l,cs=v :: l∧RV (.c g) v∧RCs gs l:=by
 cases h with
 | c _ _ v vs h1 h2=>exact ⟨v,vs,rfl,h1,h2⟩
 | mp=>cases hg
theorem g0a {id:Nat} {gs:List G} {cs:List V} (h:RCs (.mp id :: gs) cs):∃ l,cs=.mapp id :: l∧RCs gs l:=by
 cases h with
 | c _ _ v vs h1 h2=>cases h1 with | q _ _ h=>cases h
 | mp _ _ vs h=>exact ⟨vs,rfl,h⟩
theorem sBE {w:List Et} {S u:Int} {b:Bx} {K:u1 Q→Nat→Nat→Int→Int→Om} (hv:RB [.l (w.map Et.g),.mp 1,.i .i64 S,.i .i64 u] b) (hw:w ≠ []) (h:∀ t off,A5 32 (w.map Et.g) t off→t6 U (K t off w.length S u) P) :
  t6 U (U.uBc b fun l8=>U.uCons l8 fun v9 l10=>U.uSl 32 0 v9 fun t11 k12 k13=>U.uCons l10 fun v14 l15=>U.uMp 1 v14 (U.uCons l15 fun v16 l17=>U.uI .i64 v16 fun n18=>U.uCons l17 fun v19 l20=>U.uI .i64 v19 fun n21=>U.uNil l20 (K t11 k12 k13 n18 n21))) P:=by
 refine g9t hv rfl (by simp) fun cs hcs=>?_;obtain ⟨v1,l1,rfl,h1,hc1⟩:=d4s hcs rfl;obtain ⟨l2,rfl,hc2⟩:=g0a hc1;obtain ⟨v3,l3,rfl,h3,hc3⟩:=d4s hc2 rfl;obtain ⟨v4,l4,rfl,h4,hc4⟩:=d4s hc3 rfl;cases hc4;refine a3x (c1o (g9r h1 (by simpa using hw) (B7 Et.g_len)) fun t off ht=>?_);refine a3x (sMp (a3x (sI h3 (a3x (sI h4 (b7j ?_))))));exact h t off ht
end
theorem U3 {w:List Et} {L:List (List F)} {S u n m:Int} {t:u1 Q} {off:Nat} {l:List V} (h:A5 32 (w.map Et.g) t off) (hl:a6e L l) (hn:S=n) (hm:u=m):u0 (eB w L S u) [.cells [.slice t 32 off w.length .no,.mapp 1,.int .i64 n,.int .i64 m],.map l]:=by
 subst hn hm;exact .k (.cm _ _ rfl (.c _ _ _ _ (.cl _ _ _ _ _ (by simp) h) (.mp _ _ _ (.c _ _ _ _ (.i _ _) (.c _ _ _ _ (.i _ _) .nil))))) (.k (.map _ _ _ rfl hl) .nil)
def h0l:Sp where
 ι:={ x:(Wd × Sy) × Int × Int // x.1.1.1 ≠ [] }
 A x:=[.p 0 0,.a (sg x.1.1.2)]
 B x:=eB x.1.1.1.1 x.1.1.1.L x.1.2.1 x.1.2.2
 R x:=.ret (okF (L9 x.1.1.1.L x.1.1.2))
 B' x:=eB x.1.1.1.1 x.1.1.1.L x.1.2.1 x.1.2.2
 inj i j vs bs h k hb kb:=by
  obtain ⟨_,_,h1,k1,h,k⟩:=h.two k;obtain ⟨_,_,h2,k2,h,k⟩:=h.two k;obtain ⟨e1,e2,e3⟩:=c6g hb kb;have e4:i.1.1.1.L=j.1.1.1.L:=U2 e1;have e5:=a1f (h2.a_inj k2);rw [e4,e5];refine ⟨rfl,?_⟩;unfold eB;rw [e1,e2,e3]
theorem kFE:v8 102 h0l:=A8 (fun fn h=>e8q h) [(153,_)] (.cons d3u .nil) fun U fn hfn ⟨⟨(w,s),S,u⟩,hw⟩ vs bs hv hb=>by
 have hf:=hfn 153 _ rfl;change z7 [.p 0 0,.a [.s s.1,.s s.2]] vs at hv;change u0 (eB w.1 w.L S u) bs at hb;show t6 U _ fun v bs'=>A3 (.ret (okF (L9 w.L s))) v∧u0 (eB w.1 w.L S u) bs';unfold f5u;refine Zm ?_;intros;refine sBE aS hw fun t off ht=>?_;refine Zm ?_;intros;refine sBm aS fun l hl=>?_;refine Zm ?_;intros;obtain ⟨ks,vs',hm,hc⟩:=hl;refine sML (s:=s) (gz:=zF) hm (.a _ _ _ rfl aS) (.ag _ _ (by unfold zF;(exact Zru))) rfl (fun g hg=>by obtain ⟨f,_,rfl⟩:=hc _ _ hg;exact F.g_len f) (fun g x hg hx=>?_) (fun x hg hx=>?_)
 ·obtain ⟨f,hf',rfl⟩:=hc _ _ hg;rw [hf'];refine Zm ?_;intros;exact s9 ⟨.ret _ _ (.t _ _ (.k (.a _ _ _ (F.g_len _).symm aS) (.k (.kn _) .nil))),U3 ht ⟨ks,vs',hm,hc⟩ rfl rfl⟩
 ·(refine Zm ?_;with_reducible repeat' first|intro _|apply aI);cases e:L9 w.L s with
  | none =>
   refine s6 hf (w,s) (r:=.t [.a zF,.c (.b false)]) (by show z8.ret (okF (L9 w.L s))=_;rw [e];rfl) (.k (.sl _ _ _ _ _ (by simp) aS) (.k (.a _ _ _ rfl aS) .nil)) .nil fun _ _ _ _=>?_;refine sTu aS fun _ _=>?_;refine Zm ?_;intros;exact s9 ⟨.ret _ _ (.t _ _ (.k (.a _ _ _ (by rfl) aS) (.k (.b _) .nil))),U3 ht ⟨ks,vs',hm,hc⟩ rfl rfl⟩
  | some f =>
   refine s6 hf (w,s) (r:=.t [.a f.g,.c (.b true)]) (by show z8.ret (okF (L9 w.L s))=_;rw [e];rfl) (.k (.sl _ _ _ _ _ (by simp) aS) (.k (.a _ _ _ rfl aS) .nil)) .nil fun _ _ _ _=>?_;refine sTu aS fun _ _=>?_;refine Zm ?_;intros;refine H3 aS (F.g_len f) fun _ _=>?_;refine Zm ?_;intros;refine sMU hm (.a _ _ _ rfl aS) (show RV (.a f.g) (.a _ 37) from .a _ _ _ (F.g_len _).symm aS) hg fun l' hl'=>?_;refine Zm ?_;intros;exact s9 ⟨.ret _ _ (.t _ _ (.k (.a _ _ _ (F.g_len _).symm aS) (.k (.b _) .nil))),U3 ht (d2y hm hc e hl') rfl rfl⟩
end
end Go.Proofs.YtkojildpddaccaaGreatDoor
