/- An object, whatever its fields hold, read out of memory. -/
import Derived.Test.YtgipbdffgfbedaaGreatDoorCJ4
import Derived.Test.YtgipbdffgfbedaaGreatDoorRows
set_option linter.all false
namespace Go.Proofs.YtgipbdffgfbedaaGreatDoor
open Go.Abs LQ
set_option maxRecDepth 100000
set_option maxHeartbeats 4000000
noncomputable section
def RT.len:RT→Nat
 | .nil=>0
 | .node _ _ _ _ _ _ r=>r.len+1
theorem RT.len_eq:∀ p:RT,p.len=p.obs.length
 | .nil=>rfl
 | .node _ _ _ _ _ _ r=>by rw [RT.len,RT.obs,List.length_cons,r.len_eq]
def RT.qs:RT→List (List Q)
 | .nil=>[]
 | .node k nu de s t ps r=>[.int .i64 k,.str nu.length (j9 nu),.str de.length (j9 de),.str s.1.length (j9 s.1),.str s.2.length (j9 s.2),.str t.length (j9 t),.slice (a3b ps.qs) 7 0 ps.len] :: r.qs
def Ob.qc (o:Ob):List Q:=[.int .i64 o.k,.str o.nu.length (j9 o.nu),.str o.de.length (j9 o.de),.str o.s.1.length (j9 o.s.1),.str o.s.2.length (j9 o.s.2),.str o.t.length (j9 o.t),.slice (a3b o.ps.qs) 7 0 o.ps.len]
theorem RT.qs_eq:∀ p:RT,p.qs=p.obs.map Ob.qc
 | .nil=>rfl
 | .node _ _ _ _ _ _ r=>by simp only [RT.qs,RT.obs,List.map_cons,r.qs_eq];rfl
def RT.wide:RT→Prop
 | .nil=>True
 | .node _ _ _ _ _ ps r=>(ps.len < 140737488355328∧ps.wide)∧r.wide
def Ob.wide (o:Ob):Prop:=o.ps.len < 140737488355328∧o.ps.wide
theorem d2d {p:RT} (h:p.len < 140737488355328) (hx:∀ x ∈ p.obs,a1r x.g x.qc):n7 7 p.rows (a3b p.qs) 0:=.of fun j r e=>by
 rw [RT.rows_eq,List.getElem?_map] at e
 cases hj:p.obs[j]? with
 | none=>rw [hj] at e;cases e
 | some x =>
  rw [hj] at e
  injection e with e
  subst e
  have hlt:j < p.obs.length:=(List.getElem?_eq_some_iff.1 hj).1
  rw [RT.len_eq] at h
  have hx2:=hx x (List.mem_of_getElem? hj)
  refine ⟨x.g_len,?_⟩
  rw [Nat.zero_add,e1a oM,RT.qs_eq]
  rw [show (p.obs.map Ob.qc).getD j []=x.qc by simp [List.getD,hj]]
  exact a6l (by rw [Ob.g_len];decide) hx2.cel
theorem d6w {g0 g1 g2 g3 g4 g5 g6:G} {q0 q1 q2 q3 q4 q5 q6:Q} (h0:RG g0 q0) (h1:RG g1 q1) (h2:RG g2 q2) (h3:RG g3 q3) (h4:RG g4 q4) (h5:RG g5 q5) (h6:RG g6 q6):a1r [g0,g1,g2,g3,g4,g5,g6] [q0,q1,q2,q3,q4,q5,q6]:=by
 repeat' first | assumption | constructor
theorem RT.rg:∀ {p:RT},p.wide→∀ x ∈ p.obs,a1r x.g x.qc
 | .nil,_,x,h=>by simp [RT.obs] at h
 | .node k nu de s t ps r,h,x,hx=>by
  simp only [RT.obs,List.mem_cons] at hx
  rcases hx with rfl | hx
  ·exact d6w (.i _ _) (.s _ _ _ rfl rfl) (.s _ _ _ rfl rfl) (.s _ _ _ rfl rfl) (.s _ _ _ rfl rfl) (.s _ _ _ rfl rfl) (.l _ _ _ _ _ (by rw [RT.rows_eq,List.length_map,RT.len_eq]) (d2d h.1.1 (RT.rg h.1.2)))
  ·exact RT.rg h.2 x hx
theorem Ob.rg {o:Ob} (h:o.wide):a1r o.g o.qc:=d6w (.i _ _) (.s _ _ _ rfl rfl) (.s _ _ _ rfl rfl) (.s _ _ _ rfl rfl) (.s _ _ _ rfl rfl) (.s _ _ _ rfl rfl) (.l _ _ _ _ _ (by rw [RT.rows_eq,List.length_map,RT.len_eq]) (d2d h.1 (RT.rg h.2)))
def Ob.dc (o:Ob):List D:=o.qc.map fun q=>den q 0
theorem Ob.dc_eq (o:Ob):n8 (den (.agg o.qc 0)) 0 7=o.dc:=by
 rw [b2y rfl]
 rfl
theorem c86 {p:RT} {k m:Nat} (h:k+(m+1)=p.len) (hl:p.len < 140737488355328):rows (t7 (a3b p.qs)) 7 k (m+1)=(p.obs[k]'(by rw [← RT.len_eq];omega)).dc ++ rows (t7 (a3b p.qs)) 7 (k+1) m:=by
 have hk:k < p.obs.length:=by rw [← RT.len_eq];omega
 rw [rows,U0,c3v oM,RT.qs_eq,show (p.obs.map Ob.qc).getD k []=(p.obs[k]).qc by simp [List.getD,List.getElem?_eq_getElem hk]]
 show n8 (den (.agg (p.obs[k]).qc 0)) 0 7 ++ _=_
 rw [Ob.dc_eq]
def RT.ofL:List Ob→RT
 | []=>.nil
 | x :: l=>.node x.k x.nu x.de x.s x.t x.ps (RT.ofL l)
theorem RT.obs_ofL:∀ l:List Ob,(RT.ofL l).obs=l
 | []=>rfl
 | x :: l=>by rw [RT.ofL,RT.obs,RT.obs_ofL l]
theorem RT.wide_ofL:∀ {l:List Ob},(∀ x ∈ l,x.wide)→(RT.ofL l).wide
 | [],_=>trivial
 | x :: l,h=>⟨h x (by simp),RT.wide_ofL fun y hy=>h y (by simp [hy])⟩
theorem RT.sm_ofL:∀ {l:List Ob},(∀ x ∈ l,x.sm)→(RT.ofL l).sm
 | [],_=>trivial
 | x :: l,h=>⟨(h x (by simp)).1,(h x (by simp)).2,RT.sm_ofL fun y hy=>h y (by simp [hy])⟩
theorem c0u {H:Type}:∀ {l:List (DataW H)} {d:DataW H},d ∈ l→Rows.uptoBulk d≤Rows.uptoBulkAll l
 | x :: l,d,h=>by
  rw [Rows.uptoBulkAll]
  cases h with
  | head=>omega
  | tail _ h=>have:=c0u h;omega
variable {H:Type} {enc:TypeId × Value→H} {w:World} {sp:Nat→Bool} {held:Bool}
theorem c5l:Tryz.prog.cellsOf 26=7:=kR
theorem d8h:Tryz.prog.bytesOf 26=112:=kR
theorem d8m:Tryz.prog.cellsOf 23=2:=kR
theorem d0d:Tryz.prog.cellsOf 24=1:=kR
theorem b2h {a:Addr} {cs:List Value} (h:w.cells? 0 a 7=some cs):∃ c0 c1 c2 c3 c4 c5 c6,cs=[c0,c1,c2,c3,c4,c5,c6]∧w.cell? a=some c0∧w.cell? (a.add 1)=some c1∧w.cell? (a.add 2)=some c2∧w.cell? (a.add 3)=some c3∧w.cell? (a.add 4)=some c4∧w.cell? (a.add 5)=some c5∧w.cell? (a.add 6)=some c6:=by
 unfold World.cells? at h
 rw [if_pos (Nat.zero_le _),show List.range 7=[0,1,2,3,4,5,6] from rfl] at h
 simp only [List.mapM_cons,List.mapM_nil,Option.bind_eq_bind,Option.bind_eq_some_iff,Option.pure_def,Option.some.injEq] at h
 obtain ⟨c0,h0,l0,⟨c1,h1,l1,⟨c2,h2,l2,⟨c3,h3,l3,⟨c4,h4,l4,⟨c5,h5,l5,⟨c6,h6,l6,rfl,rfl⟩,rfl⟩,rfl⟩,rfl⟩,rfl⟩,rfl⟩,rfl⟩:=h
 exact ⟨c0,c1,c2,c3,c4,c5,c6,rfl,h0,h1,h2,h3,h4,h5,h6⟩
theorem d1o {P:Nat→Ob→Prop} {n:Nat} (h:∀ i,i < n→∃ r,P i r):∃ l:List Ob,∃ hl:l.length=n,∀ i (hi:i < n),P i (l[i]'oM):=by
 induction n with
 | zero=>exact ⟨[],rfl,fun i hi=>absurd hi (Nat.not_lt_zero _)⟩
 | succ n ih =>
  obtain ⟨l,hl,k⟩:=ih fun i hi=>h i oM
  obtain ⟨r,hr⟩:=h n oM
  refine ⟨l ++ [r],by simp [hl],fun i hi=>?_⟩
  by_cases hin:i < n
  ·rw [List.getElem_append_left oM];exact k i hin
  ·have:i=n:=oM
   subst this
   rw [List.getElem_append_right oM]
   simpa [hl] using hr
theorem e66 {n:Nat} (IH:∀ cs x,DataW.trod enc Tryz.prog w 0 sp held n 26 cs=some x→okW 26 x.1→Rows.uptoBulk x.1≤1048576→∃ o:Ob,(o.wide∧o.sm)∧p9 (a7t w) s9 w cs o.dc) {cs:List Value} {x:DataW H × List MemPlace}
  (h:DataW.trod enc Tryz.prog w 0 sp held (n+1) 24 cs=some x) (hw:okW 24 x.1) (hu:Rows.uptoBulk x.1≤1048576) :
  ∃ v,∃ p:RT,cs=[v]∧(p.len < 140737488355328∧p.wide∧p.sm)∧Rd (a7t w) s9 w v (.slice p.len (rows (t7 (a3b p.qs)) 7 0 p.len) .no):=by
 rcases DataW.trod_slice Tryz.underlying24 h with ⟨rfl,hx⟩ | ⟨a,len,cap,elems,rest,n',e1,rfl,hx,_,hlc,hcap,hel,hget,_,_⟩
 ·exact ⟨_,.nil,rfl,⟨dE,trivial,trivial⟩,.slice none 0 0 [] [] .no (.inl rfl) .nil trivial (Nat.le_refl _) (fun _=>rfl)⟩
 ·have e1:n'=n:=oM
  subst e1
  rw [hx] at hw hu
  unfold okW at hw
  simp only [DataW.weights,Tryz.underlying24,d8h,List.all_cons,List.all_append,Bool.and_eq_true,decide_eq_true_eq,List.length_map] at hw
  simp only [Rows.uptoBulk] at hu
  obtain ⟨hw1,hw2,_⟩:=hw
  have hub:Rows.uptoBulkAll (elems.map Prod.fst)≤1048576:=Nat.le_trans (Nat.le_trans (Nat.le_add_right _ _) (Nat.le_succ _)) hu
  have hlen:len < 140737488355328:=by
   have:reachBytes=140737488351232:=rfl
   omega
  have key:∀ i,i < len→∃ r:Ob,(r.wide∧r.sm)∧∃ cs,w.cells? 0 (a.add (i * 7)) 7=some cs∧p9 (a7t w) s9 w cs r.dc:=fun i hi=>by
   have hg:=hget i hi
   rw [List.getElem?_eq_getElem oM,c5l,Option.bind_eq_some_iff] at hg
   obtain ⟨cs,h1,h2⟩:=hg
   have hb:=c0u (List.mem_map_of_mem (f:=Prod.fst) (List.getElem_mem (l:=elems) (n:=i) oM))
   obtain ⟨r,h3,h4⟩:=IH cs _ h2 (a7o hw2 _ (List.mem_map_of_mem (List.getElem_mem _))) oM
   exact ⟨r,h3,cs,h1,h4⟩
  obtain ⟨l,hl,hP⟩:=d1o key
  have hwl:∀ x ∈ l,x.wide∧x.sm:=fun x hx=>by
   obtain ⟨i,hi,rfl⟩:=List.getElem_of_mem hx
   exact (hP i oM).1
  have hpl:(RT.ofL l).len=len:=by rw [RT.len_eq,RT.obs_ofL];exact hl
  have hpo:=RT.obs_ofL l
  have hpw:=RT.wide_ofL fun x hx=>(hwl x hx).1
  have hps:=RT.sm_ofL fun x hx=>(hwl x hx).2
  generalize hp:RT.ofL l=p at *
  by_cases h0:len=0
  ·have:p=.nil:=by
    cases p with
    | nil=>rfl
    | node=>rw [RT.len] at hpl;omega
   subst this
   subst h0
   exact ⟨_,.nil,rfl,⟨dE,trivial,trivial⟩,.slice (some a) 0 cap [] [] .no (.inl rfl) .nil trivial hlc (fun h=>by cases h)⟩
  ·have ha:a=⟨a.block,a.off,none⟩:=by
    obtain ⟨_,cs,h1,_⟩:=hP 0 oM
    obtain ⟨c0,_,_,_,_,_,_,_,h2,_⟩:=b2h h1
    have hs:=d0c h2
    rw [Nat.zero_mul] at hs
    have e:a.add 0=a:=if_pos rfl
    rw [e] at hs
    cases a
    simp only at hs
    rw [hs]
   generalize a.block=b at ha
   generalize a.off=o at ha
   subst ha
   have hblk:∀ i,i < len→∃ c0 c1 c2 c3 c4 c5 c6,w.cell? ⟨b,o+7 * i,none⟩=some c0∧w.cell? ⟨b,o+7 * i+1,none⟩=some c1∧w.cell? ⟨b,o+7 * i+2,none⟩=some c2∧w.cell? ⟨b,o+7 * i+3,none⟩=some c3∧w.cell? ⟨b,o+7 * i+4,none⟩=some c4∧w.cell? ⟨b,o+7 * i+5,none⟩=some c5∧w.cell? ⟨b,o+7 * i+6,none⟩=some c6∧∀ hi:i < l.length,p9 (a7t w) s9 w [c0,c1,c2,c3,c4,c5,c6] (l[i]).dc:=fun i hi=>by
    obtain ⟨_,cs,h1,h2⟩:=hP i hi
    obtain ⟨c0,c1,c2,c3,c4,c5,c6,rfl,k0,k1,k2,k3,k4,k5,k6⟩:=b2h h1
    rw [c0s,Nat.mul_comm] at k0 k1 k2 k3 k4 k5 k6
    rw [c0s] at k1 k2 k3 k4 k5 k6
    exact ⟨c0,c1,c2,c3,c4,c5,c6,k0,k1,k2,k3,k4,k5,k6,fun _=>h2⟩
   have hrds:∀ m k,k+m=len→p9 (a7t w) s9 w (J3 w b (o+7 * k) (7 * m)) (rows (t7 (a3b p.qs)) 7 k m):=by
    intro m
    induction m with
    | zero=>intro k _;exact .nil
    | succ m ih =>
     intro k hk
     obtain ⟨c0,c1,c2,c3,c4,c5,c6,k0,k1,k2,k3,k4,k5,k6,kr⟩:=hblk k oM
     have h2:=ih (k+1) oM
     rw [c86 oM oM]
     have e:J3 w b (o+7 * k) (7 * (m+1))=[c0,c1,c2,c3,c4,c5,c6] ++ J3 w b (o+7 * (k+1)) (7 * m):=by
      rw [show 7 * (m+1)=7 * m+1+1+1+1+1+1+1 by omega]
      simp only [J3]
      rw [k0,k1,show o+7 * k+1+1=o+7 * k+2 by omega,k2,show o+7 * k+2+1=o+7 * k+3 by omega,k3,show o+7 * k+3+1=o+7 * k+4 by omega,k4,show o+7 * k+4+1=o+7 * k+5 by omega,k5,show o+7 * k+5+1=o+7 * k+6 by omega,k6,show o+7 * k+6+1=o+7 * (k+1) by omega]
      rfl
     rw [e]
     refine p9.append ?_ h2
     have:=kr oM
     simp only [hpo]
     exact this
   refine ⟨_,p,rfl,⟨oM,hpw,hps⟩,?_⟩
   have h3:=hrds len 0 oM
   rw [hpl]
   refine .slice (some ⟨b,o,none⟩) len cap _ _ .no (.inr ⟨b,o,rfl,fun i v hi=>?_⟩) h3 trivial hlc (fun h=>by cases h)
   obtain ⟨hi7,hv⟩:=b30 hi
   rw [Nat.mul_zero,Nat.add_zero] at hv
   obtain ⟨c0,c1,c2,c3,c4,c5,c6,k0,k1,k2,k3,k4,k5,k6,_⟩:=hblk (i / 7) oM
   have hc:w.cell? ⟨b,o+i,none⟩=some v:=by
    have:i % 7=0∨i % 7=1∨i % 7=2∨i % 7=3∨i % 7=4∨i % 7=5∨i % 7=6:=oM
    rcases this with e | e | e | e | e | e | e
    ·rw [show o+i=o+7 * (i / 7) by omega] at hv ⊢;rw [k0] at hv ⊢;rw [hv];rfl
    ·rw [show o+i=o+7 * (i / 7)+1 by omega] at hv ⊢;rw [k1] at hv ⊢;rw [hv];rfl
    ·rw [show o+i=o+7 * (i / 7)+2 by omega] at hv ⊢;rw [k2] at hv ⊢;rw [hv];rfl
    ·rw [show o+i=o+7 * (i / 7)+3 by omega] at hv ⊢;rw [k3] at hv ⊢;rw [hv];rfl
    ·rw [show o+i=o+7 * (i / 7)+4 by omega] at hv ⊢;rw [k4] at hv ⊢;rw [hv];rfl
    ·rw [show o+i=o+7 * (i / 7)+5 by omega] at hv ⊢;rw [k5] at hv ⊢;rw [hv];rfl
    ·rw [show o+i=o+7 * (i / 7)+6 by omega] at hv ⊢;rw [k6] at hv ⊢;rw [hv];rfl
   exact ⟨d8l hc,hc⟩
theorem e8y:∀ (n:Nat) (cs:List Value) (x:DataW H × List MemPlace),DataW.trod enc Tryz.prog w 0 sp held n 26 cs=some x→okW 26 x.1→Rows.uptoBulk x.1≤1048576→∃ o:Ob,(o.wide∧o.sm)∧p9 (a7t w) s9 w cs o.dc:=by
 intro n
 induction n using Nat.strongRecOn with
 | _ n ih =>
 intro cs x h hw hu
 obtain ⟨xs,m,rfl,hx,hlen,hxl,hf⟩:=DataW.trod_struct Tryz.underlying26 h
 rw [c5l] at hlen
 obtain ⟨c0,c1,c2,c3,c4,c5,c6,rfl⟩:∃ c0 c1 c2 c3 c4 c5 c6,cs=[c0,c1,c2,c3,c4,c5,c6]:=by
  match cs,hlen with
  | [c0,c1,c2,c3,c4,c5,c6],_=>exact ⟨c0,c1,c2,c3,c4,c5,c6,rfl⟩
 obtain ⟨x0,x1,x2,x3,x4,x5,rfl⟩:∃ x0 x1 x2 x3 x4 x5,xs=[x0,x1,x2,x3,x4,x5]:=by
  match xs,hxl with
  | [x0,x1,x2,x3,x4,x5],_=>exact ⟨x0,x1,x2,x3,x4,x5,rfl⟩
 have f0:DataW.trod enc Tryz.prog w 0 sp held m 3 (([c0,c1,c2,c3,c4,c5,c6].drop 0).take (Tryz.prog.cellsOf 3))=some x0:=hf 0 _ rfl
 rw [d3t] at f0
 change DataW.trod enc Tryz.prog w 0 sp held m 3 [c0]=some x0 at f0
 have f1:DataW.trod enc Tryz.prog w 0 sp held m 9 (([c0,c1,c2,c3,c4,c5,c6].drop 1).take (Tryz.prog.cellsOf 9))=some x1:=hf 1 _ rfl
 rw [a4m] at f1
 change DataW.trod enc Tryz.prog w 0 sp held m 9 [c1]=some x1 at f1
 have f2:DataW.trod enc Tryz.prog w 0 sp held m 9 (([c0,c1,c2,c3,c4,c5,c6].drop 2).take (Tryz.prog.cellsOf 9))=some x2:=hf 2 _ rfl
 rw [a4m] at f2
 change DataW.trod enc Tryz.prog w 0 sp held m 9 [c2]=some x2 at f2
 have f3:DataW.trod enc Tryz.prog w 0 sp held m 23 (([c0,c1,c2,c3,c4,c5,c6].drop 3).take (Tryz.prog.cellsOf 23))=some x3:=hf 3 _ rfl
 rw [d8m] at f3
 change DataW.trod enc Tryz.prog w 0 sp held m 23 [c3,c4]=some x3 at f3
 have f4:DataW.trod enc Tryz.prog w 0 sp held m 9 (([c0,c1,c2,c3,c4,c5,c6].drop 5).take (Tryz.prog.cellsOf 9))=some x4:=hf 4 _ rfl
 rw [a4m] at f4
 change DataW.trod enc Tryz.prog w 0 sp held m 9 [c5]=some x4 at f4
 have f5:DataW.trod enc Tryz.prog w 0 sp held m 24 (([c0,c1,c2,c3,c4,c5,c6].drop 6).take (Tryz.prog.cellsOf 24))=some x5:=hf 5 _ rfl
 rw [d0d] at f5
 change DataW.trod enc Tryz.prog w 0 sp held m 24 [c6]=some x5 at f5
 obtain ⟨ys,m2,rfl,hy,_,hyl,hg⟩:=DataW.trod_struct Tryz.underlying23 f3
 obtain ⟨y0,y1,rfl⟩:∃ y0 y1,ys=[y0,y1]:=by
  match ys,hyl with
  | [y0,y1],_=>exact ⟨y0,y1,rfl⟩
 have g0:DataW.trod enc Tryz.prog w 0 sp held m2 9 (([c3,c4].drop 0).take (Tryz.prog.cellsOf 9))=some y0:=hg 0 _ rfl
 rw [a4m] at g0
 change DataW.trod enc Tryz.prog w 0 sp held m2 9 [c3]=some y0 at g0
 have g1:DataW.trod enc Tryz.prog w 0 sp held m2 9 (([c3,c4].drop 1).take (Tryz.prog.cellsOf 9))=some y1:=hg 1 _ rfl
 rw [a4m] at g1
 change DataW.trod enc Tryz.prog w 0 sp held m2 9 [c4]=some y1 at g1
 obtain ⟨k,e0,_,_⟩:=DataW.trod_int Tryz.underlying3 f0
 obtain ⟨s1,e1,b1,_⟩:=DataW.trod_string Tryz.underlying9 f1
 obtain ⟨s2,e2,b2,_⟩:=DataW.trod_string Tryz.underlying9 f2
 obtain ⟨s3,e3,b3,_⟩:=DataW.trod_string Tryz.underlying9 g0
 obtain ⟨s4,e4,b4,_⟩:=DataW.trod_string Tryz.underlying9 g1
 obtain ⟨s5,e5,b5,_⟩:=DataW.trod_string Tryz.underlying9 f4
 injection e0 with e0
 injection e1 with e1
 injection e2 with e2
 injection e3 with e3
 injection e4 with e4
 injection e5 with e5
 subst e0 e1 e2 e3 e4 e5
 subst b1 b2 b3 b4 b5 hy
 rw [hx] at hw hu
 unfold okW at hw
 simp only [DataW.weights,Tryz.underlying26,List.map_cons,List.map_nil,DataW.weightsEach,List.all_append,Bool.and_eq_true] at hw
 obtain ⟨_,_,_,_,_,hw5,_⟩:=hw
 simp only [List.map_cons,List.map_nil,Rows.uptoBulk,Rows.uptoBulkAll] at hu
 obtain ⟨v,p,e6,⟨hl,hwp,hsp⟩,hr⟩:=e66 (n:=m2) (fun cs x h1 h2 h3=>ih m2 oM cs x h1 h2 h3) f5 hw5 oM
 injection e6 with e6
 subst e6
 refine ⟨⟨k,s1.data.toList,s2.data.toList,(s3.data.toList,s4.data.toList),s5.data.toList,p⟩,⟨⟨hl,hwp⟩,⟨⟨by simp only;omega,by simp only;omega,by simp only;omega,by simp only;omega⟩,hsp⟩⟩,?_⟩
 have hd:Ob.dc ⟨k,s1.data.toList,s2.data.toList,(s3.data.toList,s4.data.toList),s5.data.toList,p⟩=[.int .i64 k,.str s1.data.toList,.str s2.data.toList,.str s3.data.toList,.str s4.data.toList,.str s5.data.toList,.slice p.len (rows (t7 (a3b p.qs)) 7 0 p.len) .no]:=by
  simp only [Ob.dc,Ob.qc,List.map_cons,List.map_nil,den,z7]
  rfl
 rw [hd]
 exact .k (.int _ _) (.k (.str _ _ rfl) (.k (.str _ _ rfl) (.k (.str _ _ rfl) (.k (.str _ _ rfl) (.k (.str _ _ rfl) (.k hr .nil))))))
def y9 (o:Ob) (n s t:Bool):Bool:=(n || decide (o.nu=[]∧o.de=[])) && (s || decide (o.s.1=[]∧o.s.2=[])) && (t || decide (o.t=[]))
def e68:Sp where
 ι:=Ob × Bool × Bool × Bool
 A p:=[.a p.1.g,.c (.b p.2.1),.c (.b p.2.2.1),.c (.b p.2.2.2)]
 B _:=[]
 R p:=.ret (.c (.b (y9 p.1 p.2.1 p.2.2.1 p.2.2.2)))
 B' _:=[]
 inj i j vs bs h k _ _:=by
  obtain ⟨_,_,h1,k1,h,k⟩:=h.two k
  obtain ⟨_,_,h2,k2,h,k⟩:=h.two k
  obtain ⟨_,_,h3,k3,h,k⟩:=h.two k
  obtain ⟨_,_,h4,k4,h,k⟩:=h.two k
  rw [Ob.g_inj (h1.a_inj k1),b9w h2 k2,b9w h3 k3,b9w h4 k4];exact ⟨rfl,rfl⟩
theorem e8m:j4 70 e68:=l9 (fun fn h=>e5v h) [] .nil fun U fn hfn ⟨o,n,s,t⟩ vs bs hv hb=>by
 have hv:j6 [.a [.i .i64 o.k,.s o.nu,.s o.de,.s o.s.1,.s o.s.2,.s o.t,.l o.ps.rows],.c (.b n),.c (.b s),.c (.b t)] vs:=hv
 have hb:RBs [] bs:=hb
 show g8 U _ fun v bs'=>j7 (.ret (.c (.b (y9 o n s t)))) v∧RBs [] bs'
 unfold r70
 cases n <;> cases s <;> cases t
 all_goals
  (refine Zq ?_;with_reducible repeat' first|intro _|apply aI)
  all_goals try simp only [show n5 0 0=[] from rfl] at *
  all_goals exact D5 fun e=>⟨.ret _ _ (by
   clear hv hb hfn
   first
   | exact F2 (by simp_all [y9])
   | (subst e;refine M5 ?_;rw [a9u];show _=decide (o.t=[]);simp_all [y9])),.nil⟩
theorem e8v:j4 72 (c0k fun s=>.c (.b (named s))):=l9 (fun fn h=>e5x h) [] .nil fun U fn hfn ⟨s,h1,h2⟩ vs bs hv hb=>by
 have h1:s.1.length < 21600000:=h1
 have hv:j6 [.a [.s s.1,.s s.2]] vs:=hv
 have hb:RBs [] bs:=hb
 show g8 U _ fun v bs'=>j7 (.ret (.c (.b (named s)))) v∧RBs [] bs'
 unfold r72
 (refine Zy ?_;intros)
 refine Q4 (fun vs bs=>∃ b:Bool,j6 [.p 0 0,.c (.b b)] vs∧RBs [[.s s.1,.s s.2]] bs∧(U=CU→b=!decide (1≤s.1.length∧s.1.length≤40∧1≤s.2.length∧s.2.length≤40))) ?_ ?_
 ·rintro vs' bs' ⟨b,hv',hb',hbe⟩
  refine fun e=>?_
  have hbe:=hbe e
  refine (show g8 U _ _ from ?_) e
  (refine Zq ?_;with_reducible repeat' first|intro _|apply aI)
  ·have:named s=false:=by
    have hb1:b=true:=‹_›
    rw [hb1] at hbe
    have h3:¬(1≤s.1.length∧s.1.length≤40∧1≤s.2.length∧s.2.length≤40):=fun h=>by rw [decide_eq_true h] at hbe;cases hbe
    unfold named p8
    rw [Bool.eq_false_iff]
    intro h4
    simp only [Bool.and_eq_true,decide_eq_true_iff] at h4
    omega
   rw [this]
   exact i7 ⟨.ret _ _ (.kn _),.nil⟩
  ·have h3:1≤s.1.length∧s.1.length≤40∧1≤s.2.length∧s.2.length≤40:=by
    have hb1:b=false:=by simpa using ‹¬b=true›
    rw [hb1] at hbe
    by_cases h:1≤s.1.length∧s.1.length≤40∧1≤s.2.length∧s.2.length≤40
    ·exact h
    ·rw [decide_eq_false h] at hbe;cases hbe
   have hnm:named s=(decide (97≤bt s.1 0∧bt s.1 0≤122) && F1 s.1 0):=by
    unfold named p8
    rw [Bool.eq_iff_iff]
    simp only [Bool.and_eq_true,decide_eq_true_iff]
    constructor
    ·rintro ⟨⟨a,b⟩,c⟩;exact ⟨⟨oM,oM⟩,b⟩
    ·rintro ⟨a,b⟩;exact ⟨⟨⟨oM,oM,oM,oM⟩,b⟩,oM⟩
   rw [hnm]
   refine F3 (fun (i:Nat) vs bs=>vs=[.ptr 0 0,.int .i64 s.1.length,.int .i64 i]∧RBs [[.s s.1,.s s.2]] bs∧i≤s.1.length∧F1 s.1 i=F1 s.1 0∧(i=0∨97≤bt s.1 0∧bt s.1 0≤122)) (fun i=>s.1.length - i) 0 ⟨rfl,RB.bx aS rfl,oM,rfl,.inl rfl⟩ (by simp only [y8];omega) ?_
   rintro self i _ _ ⟨rfl,hb,hi,he,h0⟩ ih
   have hbi:bt s.1 i=((s.1.getD i 0).toNat:Int):=rfl
   have hz:i=0→bt s.1 0=((s.1.getD i 0).toNat:Int):=by rintro rfl;rfl
   have no:¬a0p (bt s.1 i)=true→i < s.1.length→(decide (97≤bt s.1 0∧bt s.1 0≤122) && F1 s.1 0)=false:=fun h hl=>by rw [← he,c6t hl h,Bool.and_false]
   have no2:¬(97≤bt s.1 0∧bt s.1 0≤122)→(decide (97≤bt s.1 0∧bt s.1 0≤122) && F1 s.1 0)=false:=fun h=>by rw [decide_eq_false h];rfl
   (refine Zq ?_;with_reducible repeat' first|intro _|apply aI)
   all_goals first
    | exact ih (i+1) _ _ ⟨rfl,RB.bx aS rfl,oM,(d1z (i:=i) oM (c8y.2 oM)).symm.trans he,.inr oM⟩ oM
    | exact i7 ⟨.ret _ _ (F2 (no (fun h=>by have:=c8y.1 h;omega) oM)),.nil⟩
    | exact i7 ⟨.ret _ _ (F2 (no2 oM)),.nil⟩
    | skip
   have hl:¬i < s.1.length:=oM
   rw [decide_eq_true oM,← he,c6s hl]
   exact i7 ⟨.ret _ _ (.kn _),.nil⟩
 ·intro c hc
  (refine Zq ?_;with_reducible repeat' first|intro _|apply aI)
  all_goals refine hc _ _ ⟨_,by (exact j3),RB.bx aS rfl,fun e=>?_⟩
  all_goals first
   | exact (congrArg (!·) (decide_eq_false oM)).symm
   | skip
  subst e
  rw [b2x]
  by_cases h:(40:Int) < (s.2.length:Int)
  ·rw [decide_eq_true h,decide_eq_false oM];rfl
  ·rw [decide_eq_false h,decide_eq_true oM];rfl
def O8 (s:f6):Nat:=(f7 (f8 s).natAbs).length
def U4 (nu de:f6):Bool:=x8 nu && x8 de && decide (O8 nu≤100) && decide (O8 de≤100) && decide (m7 nu de=(nu,de))
theorem d87 (hst:j4 106 a1g):j4 71 (e67 fun nu de=>.ret (.c (.b (U4 nu de)))):=l9 (fun fn h=>e5w h) [(81,_),(82,_),(83,_)] (.cons c6e (.cons c1t (.cons (c10 hst) .nil))) fun U fn hfn ⟨(nu,de),h1,h2⟩ vs bs hv hb=>by
 have hva:=hfn 81 _ rfl
 have hdi:=hfn 82 _ rfl
 have hre:=hfn 83 _ rfl
 have h1:nu.length < 1920000:=h1
 have h2:de.length < 1920000:=h2
 have hv:j6 [.c (.s nu),.c (.s de)] vs:=hv
 have hb:RBs [] bs:=hb
 show g8 U _ fun v bs'=>j7 (.ret (.c (.b (U4 nu de)))) v∧RBs [] bs'
 unfold r71
 (refine Zy ?_;intros)
 refine Q4 (fun vs bs=>∃ b:Bool,j6 [.c (.s nu),.c (.s de),.c (.b b)] vs∧RBs [] bs∧(U=CU→b=!(x8 nu && x8 de && decide (O8 nu≤100) && decide (O8 de≤100)))) ?_ ?_
 ·rintro vs' bs' ⟨b,hv',hb',hbe⟩
  refine fun e=>?_
  have hbe:=hbe e
  refine (show g8 U _ _ from ?_) e
  have hlb:U4 nu de=(!b && decide (m7 nu de=(nu,de))):=by rw [hbe,Bool.not_not];rfl
  rw [hlb]
  (refine Zq ?_;with_reducible repeat' first|intro _|apply aI)
  ·rw [‹b=true›]
   exact i7 ⟨.ret _ _ (.kn _),.nil⟩
  ·have hb1:b=false:=by simpa using ‹¬b=true›
   rw [hb1]
   refine f9 hre ⟨(nu,de),h1,h2⟩ (r:=.t [.c (.s (m7 nu de).1),.c (.s (m7 nu de).2)]) rfl j3 .nil fun _ _ _ _=>?_
   generalize m7 nu de=q at *
   obtain ⟨q1,q2⟩:=q
   (refine Zq ?_;with_reducible repeat' first|intro _|apply aI)
   ·have e1:q1=nu:=‹_›
    exact D5 fun e=>by
     subst e
     refine ⟨.ret _ _ (M5 ?_),.nil⟩
     rw [cuS]
     simp [e1]
   ·have e1:¬q1=nu:=‹_›
    exact i7 ⟨.ret _ _ (F2 (by simp [e1])),.nil⟩
 ·intro c hc
  have d1:(f7 (f8 nu).natAbs).length=O8 nu:=rfl
  have d2:(f7 (f8 de).natAbs).length=O8 de:=rfl
  (refine Zq ?_;intros)
  refine f9 hva ⟨nu,by show nu.length < 21600000;omega⟩ (r:=.c (.b (x8 nu))) rfl j3 .nil fun _ _ _ _=>?_
  (refine Zq ?_;with_reducible repeat' first|intro _|apply aI)
  ·refine f9 hva ⟨de,by show de.length < 21600000;omega⟩ (r:=.c (.b (x8 de))) rfl j3 .nil fun _ _ _ _=>?_
   (refine Zq ?_;with_reducible repeat' first|intro _|apply aI)
   ·refine f9 hdi ⟨nu,by show nu.length < 21600000;omega⟩ (r:=.c (.i .i64 (O8 nu))) rfl j3 .nil fun _ _ _ _=>?_
    (refine Zq ?_;with_reducible repeat' first|intro _|apply aI)
    ·exact hc _ _ ⟨_,by (exact j3),.nil,fun e=>by simp [*];omega⟩
    ·refine f9 hdi ⟨de,by show de.length < 21600000;omega⟩ (r:=.c (.i .i64 (O8 de))) rfl j3 .nil fun _ _ _ _=>?_
     (refine Zq ?_;intros)
     refine hc _ _ ⟨_,by (exact j3),.nil,fun e=>?_⟩
     subst e
     rw [b2x]
     by_cases h:(100:Int) < (O8 de:Int)
     ·rw [decide_eq_true h,show decide (O8 de≤100)=false from decide_eq_false oM,Bool.and_false];rfl
     ·rw [decide_eq_false h,show decide (O8 de≤100)=true from decide_eq_true oM,show decide (O8 nu≤100)=true from decide_eq_true oM,‹x8 nu=true›,‹x8 de=true›];rfl
   ·exact hc _ _ ⟨_,by (exact j3),.nil,fun e=>by simp [*]⟩
  ·exact hc _ _ ⟨_,by (exact j3),.nil,fun e=>by simp [*]⟩
def fmB (k:Int) (nu de:f6) (s:Sy) (t:f6) (ps:RT) (l:List Bool):Bool :=
 if k=4 then (match l with
  | [a,b]=>y9 ⟨k,nu,de,s,t,ps⟩ false false false && a && b
  | _=>false)
 else if k=1 then y9 ⟨k,nu,de,s,t,ps⟩ true false false && decide (ps.obs.length=0) && U4 nu de
 else if k=2 then y9 ⟨k,nu,de,s,t,ps⟩ false true false && decide (ps.obs.length=0) && named s
 else if k=3 then y9 ⟨k,nu,de,s,t,ps⟩ false false true && decide (ps.obs.length=0) && decide (t.length≤200)
 else false
def RT.fm:RT→List Bool
 | .nil=>[]
 | .node k nu de s t ps r=>fmB k nu de s t ps ps.fm :: r.fm
def Ob.fm (o:Ob):Bool:=fmB o.k o.nu o.de o.s o.t o.ps o.ps.fm
theorem RT.fm_eq:∀ p:RT,p.fm=p.obs.map Ob.fm
 | .nil=>rfl
 | .node _ _ _ _ _ _ r=>by simp only [RT.fm,RT.obs,List.map_cons,r.fm_eq];rfl
theorem a4s {o x y:Ob} (h:o.ps.obs=[x,y]) (hk:o.k=4):o.fm=(y9 o false false false && x.fm && y.fm):=by
 unfold Ob.fm fmB
 rw [if_pos hk,o.ps.fm_eq,h];rfl
theorem b91 {o:Ob} (h:∀ x y,o.ps.obs ≠ [x,y]) (hk:o.k=4):o.fm=false:=by
 unfold Ob.fm fmB
 rw [if_pos hk,o.ps.fm_eq]
 rcases e:o.ps.obs with _ | ⟨x,_ | ⟨y,_ | ⟨z,r⟩⟩⟩
 ·rfl
 ·rfl
 ·exact absurd e (h x y)
 ·rfl
theorem a91 {o:Ob} (hk:o.k=1):o.fm=(y9 o true false false && decide (o.ps.obs.length=0) && U4 o.nu o.de):=by
 unfold Ob.fm fmB;rw [if_neg oM,if_pos hk]
theorem a8d {o:Ob} (hk:o.k=2):o.fm=(y9 o false true false && decide (o.ps.obs.length=0) && named o.s):=by
 unfold Ob.fm fmB;rw [if_neg oM,if_neg oM,if_pos hk]
theorem a2z {o:Ob} (hk:o.k=3):o.fm=(y9 o false false true && decide (o.ps.obs.length=0) && decide (o.t.length≤200)):=by
 unfold Ob.fm fmB;rw [if_neg oM,if_neg oM,if_neg oM,if_pos hk]
theorem c1n {o:Ob} (h1:¬o.k=4) (h2:¬o.k=1) (h3:¬o.k=2) (h4:¬o.k=3):o.fm=false:=by
 unfold Ob.fm fmB;rw [if_neg h1,if_neg h2,if_neg h3,if_neg h4]
theorem c2h {o x y:Ob} (h:o.ps.obs=[x,y]):o.nd=1+x.nd+y.nd:=by rw [o.nd_eq,h]
theorem d2q {o x y:Ob} (h:o.ps.obs=[x,y]) (hs:o.sm):x.sm∧y.sm:=⟨RT.obs_sm hs.2 (by rw [h];simp),RT.obs_sm hs.2 (by rw [h];simp)⟩
def e27 (o:Ob):Prop:=o.sm∧o.nd≤3000
theorem d4h (hst:j4 106 a1g):j4 48 (b0v e27 fun o=>.c (.b o.fm)):=Q1 (fun p=>p.1.nd) fun n ih=>l9 (fun fn h=>e5b h) [(48,(b0v e27 fun o=>.c (.b o.fm)).lt _ n),(70,_),(71,_),(72,_)] (.cons ih (.cons e8m (.cons (d87 hst) (.cons e8v .nil)))) fun U fn hfn ⟨⟨o,hs,hnd⟩,hn⟩ vs bs hv hb=>by
 have hf:=hfn 48 _ rfl
 have hba:=hfn 70 _ rfl
 have hlo:=hfn 71 _ rfl
 have hsy:=hfn 72 _ rfl
 have hv:j6 [.a o.g] vs:=hv
 have hb:RBs [] bs:=hb
 have hn:o.nd < n+1:=hn
 show g8 U _ fun v bs'=>j7 (.ret (.c (.b o.fm))) v∧RBs [] bs'
 unfold r48
 (refine Zq ?_;intros)
 refine F3 (fun (x:Ob) vs bs=>vs=[.ptr 0 0]∧RBs [x.g] bs∧x.fm=o.fm∧x.sm∧x.nd≤o.nd) (fun x=>x.nd) o ⟨rfl,RB.bx aS rfl,rfl,hs,Nat.le_refl _⟩ (show o.nd < y8 by simp only [y8];omega) ?_
 rintro self x _ _ ⟨rfl,hb,he,hxs,hxn⟩ ih2
 rw [← he]
 rw [x.g_eq] at hb
 have gq:∀ q,u3 [G.i .i64 x.k,.s x.nu,.s x.de,.s x.s.1,.s x.s.2,.s x.t,.l (x.ps.obs.map Ob.g)] q 0→u3 x.g q 0:=fun q h=>by rw [x.g_eq];exact h
 have fin:∀ (b:Bool),x.fm=b→g8 U (some (.ret (.known b),[])) fun v bs'=>j7 (.ret (.c (.b x.fm))) v∧RBs [] bs':=fun b h=>i7 ⟨.ret _ _ (F2 h),.nil⟩
 rcases a7a x.ps with ⟨a,b,e⟩ | ⟨hne,hno⟩
 ·have hab:=d2q e hxs
  have hnd2:=c2h e
  have hp1:=a.nd_pos
  have hp2:=b.nd_pos
  rw [e] at hb gq
  have hlen:decide (x.ps.obs.length=0)=false:=by rw [e];rfl
  (refine Zq ?_;with_reducible repeat' first|intro _|apply aI)
  ·(refine B5 (f:=Ob.g) aS (u0 Ob.g_len) fun _ _ _=>?_)
   (refine Zq ?_;with_reducible repeat' first|intro _|apply aI)
   ·refine f9 hba (x,false,false,false) (r:=.c (.b (y9 x false false false))) rfl (.k (.a _ _ _ rfl (gq _ aS)) j3) .nil fun _ _ _ _=>?_
    (refine Zq ?_;with_reducible repeat' first|intro _|apply aI)
    ·(refine B5 (f:=Ob.g) aS (u0 Ob.g_len) fun _ _ _=>?_)
     (refine Zq ?_;intros)
     refine f9 hf ⟨⟨a,hab.1,oM⟩,show a.nd < n by omega⟩ (r:=.c (.b a.fm)) rfl j3 .nil fun _ _ _ _=>?_
     (refine Zq ?_;with_reducible repeat' first|intro _|apply aI)
     ·(refine B5 (f:=Ob.g) aS (u0 Ob.g_len) fun _ _ _=>?_)
      (refine Zq ?_;intros)
      rw [he]
      exact ih2 b _ _ ⟨rfl,RB.bx aS rfl,by rw [← he,a4s e ‹x.k=4›];simp [*],hab.2,oM⟩ oM
     ·exact fin false ((a4s e ‹x.k=4›).trans (by simp [*]))
    ·exact fin false ((a4s e ‹x.k=4›).trans (by simp [*]))
   ·exact absurd rfl ‹¬_›
  ·refine f9 hba (x,true,false,false) (r:=.c (.b (y9 x true false false))) rfl (.k (.a _ _ _ rfl (gq _ aS)) j3) .nil fun _ _ _ _=>?_
   (refine Zq ?_;with_reducible repeat' first|intro _|apply aI)
   ·(refine B5 (f:=Ob.g) aS (u0 Ob.g_len) fun _ _ _=>?_)
    (refine Zq ?_;with_reducible repeat' first|intro _|apply aI)
    ·exact absurd ‹((([a,b]:List Ob).length:Nat):Int)=0› (by simp)
    ·exact fin false ((a91 ‹x.k=1›).trans (by rw [hlen,Bool.and_false];rfl))
   ·exact fin false ((a91 ‹x.k=1›).trans (by simp [*]))
  ·refine f9 hba (x,false,true,false) (r:=.c (.b (y9 x false true false))) rfl (.k (.a _ _ _ rfl (gq _ aS)) j3) .nil fun _ _ _ _=>?_
   (refine Zq ?_;with_reducible repeat' first|intro _|apply aI)
   ·(refine B5 (f:=Ob.g) aS (u0 Ob.g_len) fun _ _ _=>?_)
    (refine Zq ?_;with_reducible repeat' first|intro _|apply aI)
    ·exact absurd ‹((([a,b]:List Ob).length:Nat):Int)=0› (by simp)
    ·exact fin false ((a8d ‹x.k=2›).trans (by rw [hlen,Bool.and_false];rfl))
   ·exact fin false ((a8d ‹x.k=2›).trans (by simp [*]))
  ·refine f9 hba (x,false,false,true) (r:=.c (.b (y9 x false false true))) rfl (.k (.a _ _ _ rfl (gq _ aS)) j3) .nil fun _ _ _ _=>?_
   (refine Zq ?_;with_reducible repeat' first|intro _|apply aI)
   ·(refine B5 (f:=Ob.g) aS (u0 Ob.g_len) fun _ _ _=>?_)
    (refine Zq ?_;with_reducible repeat' first|intro _|apply aI)
    ·exact absurd ‹((([a,b]:List Ob).length:Nat):Int)=0› (by simp)
    ·exact fin false ((a2z ‹x.k=3›).trans (by rw [hlen,Bool.and_false];rfl))
   ·exact fin false ((a2z ‹x.k=3›).trans (by simp [*]))
  ·exact fin false (c1n (o:=x) aS aS aS aS)
 ·(refine Zq ?_;with_reducible repeat' first|intro _|apply aI)
  ·(refine B5 (f:=Ob.g) aS (u0 Ob.g_len) fun _ _ _=>?_)
   (refine Zq ?_;with_reducible repeat' first|intro _|apply aI)
   ·exact absurd ‹_› hne
   ·exact fin false (b91 hno ‹x.k=4›)
  ·refine f9 hba (x,true,false,false) (r:=.c (.b (y9 x true false false))) rfl (.k (.a _ _ _ rfl (gq _ aS)) j3) .nil fun _ _ _ _=>?_
   (refine Zq ?_;with_reducible repeat' first|intro _|apply aI)
   ·(refine B5 (f:=Ob.g) aS (u0 Ob.g_len) fun _ _ _=>?_)
    (refine Zq ?_;with_reducible repeat' first|intro _|apply aI)
    ·have hl0:decide (x.ps.obs.length=0)=true:=decide_eq_true oM
     refine f9 hlo ⟨(x.nu,x.de),hxs.1.1,hxs.1.2.1⟩ (r:=.c (.b (U4 x.nu x.de))) rfl j3 .nil fun _ _ _ _=>?_
     (refine Zq ?_;intros)
     rw [a91 ‹x.k=1›,hl0,‹y9 x true false false=true›,Bool.true_and,Bool.true_and]
     exact i7 ⟨.ret _ _ (.b _),.nil⟩
    ·exact fin false ((a91 ‹x.k=1›).trans (by rw [show decide (x.ps.obs.length=0)=false from decide_eq_false oM,Bool.and_false];rfl))
   ·exact fin false ((a91 ‹x.k=1›).trans (by simp [*]))
  ·refine f9 hba (x,false,true,false) (r:=.c (.b (y9 x false true false))) rfl (.k (.a _ _ _ rfl (gq _ aS)) j3) .nil fun _ _ _ _=>?_
   (refine Zq ?_;with_reducible repeat' first|intro _|apply aI)
   ·(refine B5 (f:=Ob.g) aS (u0 Ob.g_len) fun _ _ _=>?_)
    (refine Zq ?_;with_reducible repeat' first|intro _|apply aI)
    ·have hl0:decide (x.ps.obs.length=0)=true:=decide_eq_true oM
     refine f9 hsy ⟨x.s,hxs.1.2.2.1,hxs.1.2.2.2⟩ (r:=.c (.b (named x.s))) rfl (.k (.a _ _ _ rfl (show u3 (List.take 2 [G.s x.s.1,.s x.s.2,.s x.t,.l (x.ps.obs.map Ob.g)]) _ 0 from u3.take 2 aS)) .nil) .nil fun _ _ _ _=>?_
     (refine Zq ?_;intros)
     rw [a8d ‹x.k=2›,hl0,‹y9 x false true false=true›,Bool.true_and,Bool.true_and]
     exact i7 ⟨.ret _ _ (.b _),.nil⟩
    ·exact fin false ((a8d ‹x.k=2›).trans (by rw [show decide (x.ps.obs.length=0)=false from decide_eq_false oM,Bool.and_false];rfl))
   ·exact fin false ((a8d ‹x.k=2›).trans (by simp [*]))
  ·refine f9 hba (x,false,false,true) (r:=.c (.b (y9 x false false true))) rfl (.k (.a _ _ _ rfl (gq _ aS)) j3) .nil fun _ _ _ _=>?_
   (refine Zq ?_;with_reducible repeat' first|intro _|apply aI)
   ·(refine B5 (f:=Ob.g) aS (u0 Ob.g_len) fun _ _ _=>?_)
    (refine Zq ?_;with_reducible repeat' first|intro _|apply aI)
    ·have hl0:decide (x.ps.obs.length=0)=true:=decide_eq_true oM
     rw [a2z ‹x.k=3›,hl0,‹y9 x false false true=true›,Bool.true_and,Bool.true_and]
     exact D5 fun e=>⟨.ret _ _ (M5 (by subst e;rw [c0y,Bool.eq_iff_iff,decide_eq_true_iff,decide_eq_true_iff];omega)),.nil⟩
    ·exact fin false ((a2z ‹x.k=3›).trans (by rw [show decide (x.ps.obs.length=0)=false from decide_eq_false oM,Bool.and_false];rfl))
   ·exact fin false ((a2z ‹x.k=3›).trans (by simp [*]))
  ·exact fin false (c1n (o:=x) aS aS aS aS)
def Ob.vd (o:Ob):Bool:=decide (o.nd≤3000) && o.fm
theorem b6u (hst:j4 106 a1g):j4 25 (b0v Ob.sm fun o=>.c (.b o.vd)):=l9 (fun fn h=>e4r h) [(47,_),(48,_)] (.cons d89 (.cons (d4h hst) .nil)) fun U fn hfn ⟨o,hs⟩ vs bs hv hb=>by
 have hn:=hfn 47 _ rfl
 have hf:=hfn 48 _ rfl
 have hv:j6 [.a o.g] vs:=hv
 have hb:RBs [] bs:=hb
 show g8 U _ fun v bs'=>j7 (.ret (.c (.b o.vd))) v∧RBs [] bs'
 unfold r25
 (refine Zq ?_;intros)
 refine f9 hn ⟨o,trivial⟩ (r:=.c (.i .i64 (min o.nd 3001:Nat))) rfl j3 .nil fun _ _ _ _=>?_
 (refine Zq ?_;with_reducible repeat' first|intro _|apply aI)
 ·have h:o.nd≤3000:=oM
  refine f9 hf ⟨o,hs,h⟩ (r:=.c (.b o.fm)) rfl j3 .nil fun _ _ _ _=>?_
  (refine Zq ?_;intros)
  unfold Ob.vd
  rw [decide_eq_true h,Bool.true_and]
  exact i7 ⟨.ret _ _ (.b _),.nil⟩
 ·exact i7 ⟨.ret _ _ (F2 (by unfold Ob.vd;rw [decide_eq_false oM];rfl)),.nil⟩
theorem c11:j4 56 (e7g fun s=>.a (O.sy s).g):=l9 (fun fn h=>e5i h) [] .nil fun U fn hfn s vs bs hv hb=>by
 have hv:j6 [.a [.s s.1,.s s.2]] vs:=hv
 have hb:RBs [] bs:=hb
 show g8 U _ fun v bs'=>j7 (.ret (.a (O.sy s).g)) v∧RBs [] bs'
 unfold r56
 (refine Zq ?_;intros)
 exact D5 fun e=>by
  subst e
  exact ⟨.ret _ _ (.ag _ _ (by (exact Zru))),.nil⟩
def syB (s:Sy):Ob:=⟨2,[],[],s,[],.nil⟩
theorem e7l (s:Sy):(syB s).vd=named s:=by
 have h1:(syB s).nd=1:=rfl
 unfold Ob.vd
 rw [h1,a8d rfl]
 simp [y9,syB,RT.obs]
theorem c6f (hst:j4 106 a1g):j4 51 (c0k fun s=>.c (.b (named s))):=l9 (fun fn h=>e5d h) [(56,_),(25,_)] (.cons c11 (.cons (b6u hst) .nil)) fun U fn hfn ⟨s,h1,h2⟩ vs bs hv hb=>by
 have hs:=hfn 56 _ rfl
 have ho:=hfn 25 _ rfl
 have hv:j6 [.a (sg s)] vs:=hv
 have hb:RBs [] bs:=hb
 show g8 U _ fun v bs'=>j7 (.ret (.c (.b (named s)))) v∧RBs [] bs'
 unfold r51
 (refine Zq ?_;intros)
 refine f9 hs s (r:=.a (syB s).g) rfl j3 .nil fun _ _ _ _=>?_
 (refine Zq ?_;intros)
 refine f9 ho ⟨syB s,⟨⟨by show 0 < 1920000;omega,by show 0 < 1920000;omega,h1,h2⟩,trivial⟩⟩ (r:=.c (.b (named s))) (by show o8.ret (.c (.b (syB s).vd))=_;rw [e7l]) (.k (.a _ _ _ rfl aS) .nil) .nil fun _ _ _ _=>?_
 (refine Zq ?_;intros)
 exact i7 ⟨.ret _ _ (.b _),.nil⟩
theorem b6w (hst:j4 106 a1g):j4 136 (sp1 fun s=>.ret (.c (.b (p8 s)))):=l9 (fun fn h=>e0l h) [(51,_)] (.cons (c6f hst) .nil) fun U fn hfn ⟨s,hs⟩ vs bs hv hb=>by
 have hvd:=hfn 51 _ rfl
 have hv:j6 [.c (.s s)] vs:=hv
 have hb:RBs [] bs:=hb
 show g8 U _ fun v bs'=>j7 (.ret (.c (.b (p8 s)))) v∧RBs [] bs'
 unfold e39
 have e:named (s,n5 1 120)=p8 s:=by
  unfold named
  rw [show decide (1≤(s,n5 1 120).2.length∧(s,n5 1 120).2.length≤40)=true from (by decide:decide (1≤(n5 1 120).length∧(n5 1 120).length≤40)=true),Bool.and_true]
 (refine Zq ?_;intros)
 refine f9 hvd ⟨(s,n5 1 120),hs,by show (n5 1 120).length < 21600000;decide⟩ (r:=.c (.b (p8 s))) (by show o8.ret (.c (.b (named (s,n5 1 120))))=_;rw [e]) (.k (.ag _ _ j3) .nil) .nil fun _ _ _ _=>?_
 (refine Zq ?_;intros)
 exact i7 ⟨.ret _ _ (.b _),.nil⟩
def c3i:Sp where
 ι:={ p:Ob × Nat // 1≤p.2∧p.2≤24000000 }
 A p:=[.a p.1.1.g,.c (.i .i64 p.1.2)]
 B _:=[]
 R p:=.ret (.c (.i .i64 (min p.1.1.nd p.1.2:Nat)))
 B' _:=[]
 inj i j vs bs h k _ _:=by
  obtain ⟨_,_,h1,k1,h,k⟩:=h.two k
  obtain ⟨_,_,h2,k2,h,k⟩:=h.two k
  have e1:=Ob.g_inj (h1.a_inj k1)
  have e2:=Z7 h2 k2
  have e2:i.1.2=j.1.2:=oM
  rw [e1,e2];exact ⟨rfl,rfl⟩
theorem e8w {o:Ob} (h:∀ x y,o.ps.obs ≠ [x,y]):o.nd=1:=by
 rw [o.nd_eq]
 split
 ·rename_i e;exact absurd e (h _ _)
 ·rfl
theorem d80:j4 14 c3i:=Q1 (fun p=>p.1.2) fun n ih=>l9 (fun fn h=>d15 h) [(14,c3i.lt _ n)] (.cons ih .nil) fun U fn hfn ⟨⟨(o,l),hl1,hl2⟩,hn⟩ vs bs hv hb=>by
 have hr:=hfn 14 _ rfl
 have hl1:1≤l:=hl1
 have hl2:l≤24000000:=hl2
 have hv:j6 [.a o.g,.c (.i .i64 l)] vs:=hv
 have hb:RBs [] bs:=hb
 have hn:l < n+1:=hn
 show g8 U _ fun v bs'=>j7 (.ret (.c (.i .i64 (min o.nd l:Nat)))) v∧RBs [] bs'
 unfold r14
 rw [o.g_eq] at hv
 have hp:=o.nd_pos
 rcases a7a o.ps with ⟨a,b,e⟩ | ⟨hne,hno⟩
 ·rw [e] at hv
  have hs:=c2h e
  have hpa:=a.nd_pos
  have hpb:=b.nd_pos
  (refine Zq ?_;intros)
  (refine B5 (f:=Ob.g) aS (u0 Ob.g_len) fun _ _ _=>?_)
  (refine Zq ?_;with_reducible repeat' first|intro _|apply aI)
  ·exact i7 ⟨.ret _ _ (Y1 oM),.nil⟩
  ·(refine B5 (f:=Ob.g) aS (u0 Ob.g_len) fun _ _ _=>?_)
   (refine Zq ?_;intros)
   refine f9 hr ⟨⟨(a,l - 1),show 1≤l - 1 by omega,show l - 1≤24000000 by omega⟩,show l - 1 < n by omega⟩ (r:=.c (.i .i64 (min a.nd (l - 1):Nat))) rfl (.k j3 (.k (c87 (by simp only;omega)) .nil)) .nil fun _ _ _ _=>?_
   (refine Zq ?_;with_reducible repeat' first|intro _|apply aI)
   ·exact i7 ⟨.ret _ _ (Y1 oM),.nil⟩
   ·(refine B5 (f:=Ob.g) aS (u0 Ob.g_len) fun _ _ _=>?_)
    (refine Zq ?_;intros)
    refine f9 hr ⟨⟨(b,l - (1+a.nd)),show 1≤l - (1+a.nd) by omega,show l - (1+a.nd)≤24000000 by omega⟩,show l - (1+a.nd) < n by omega⟩ (r:=.c (.i .i64 (min b.nd (l - (1+a.nd)):Nat))) rfl (.k j3 (.k (c87 (by simp only;omega)) .nil)) .nil fun _ _ _ _=>?_
    (refine Zq ?_;intros)
    exact i7 ⟨.ret _ _ (Y1 oM),.nil⟩
  ·exact absurd rfl ‹¬_›
 ·have h1:=e8w hno
  (refine Zq ?_;intros)
  (refine B5 (f:=Ob.g) aS (u0 Ob.g_len) fun _ _ _=>?_)
  (refine Zq ?_;with_reducible repeat' first|intro _|apply aI)
  all_goals first | exact i7 ⟨.ret _ _ (Y1 oM),.nil⟩ | exact absurd aS hne
theorem c6b:j4 5 (b0v (fun _=>True) fun o=>.c (.i .i64 (min o.nd 3001:Nat))):=l9 (fun fn h=>d7f h) [(14,_)] (.cons d80 .nil) fun U fn hfn ⟨o,_⟩ vs bs hv hb=>by
 have hr:=hfn 14 _ rfl
 have hv:j6 [.a o.g] vs:=hv
 have hb:RBs [] bs:=hb
 show g8 U _ fun v bs'=>j7 (.ret (.c (.i .i64 (min o.nd 3001:Nat)))) v∧RBs [] bs'
 unfold r5
 (refine Zq ?_;intros)
 refine f9 hr ⟨(o,3001),oM,oM⟩ (r:=.c (.i .i64 (min o.nd 3001:Nat))) rfl j3 .nil fun _ _ _ _=>?_
 (refine Zq ?_;intros)
 exact i7 ⟨.ret _ _ (.i _ _),.nil⟩
theorem c5u (s:f6):A6 s=O8 s:=by
 unfold A6 O8
 by_cases h:(f8 s).natAbs=0
 ·rw [h,u7];rfl
 ·rw [L2 _ h,E1 h];simp
theorem c6i (nu de:f6):U4 nu de=decide (m7 nu de=(nu,de)∧A6 nu≤100∧A6 de≤100):=by
 unfold U4
 rw [← c5u,← c5u,Bool.eq_iff_iff]
 simp only [Bool.and_eq_true,decide_eq_true_iff]
 constructor
 ·rintro ⟨⟨⟨⟨_,_⟩,h1⟩,h2⟩,h3⟩;exact ⟨h3,h1,h2⟩
 ·rintro ⟨h3,h1,h2⟩
  refine ⟨⟨⟨⟨?_,?_⟩,h1⟩,h2⟩,h3⟩
  ·have e:(m7 nu de).1=nu:=congrArg Prod.fst h3
   rw [← e];unfold m7;split
   ·rfl
   ·exact a88 _
  ·have e:(m7 nu de).2=de:=congrArg Prod.snd h3
   rw [← e];unfold m7;split
   ·exact a2h ▸ T7 1
   ·exact T7 _
theorem d4i:j4 37 (b0v Ob.sm fun o=>.c (.b o.fm)):=Q1 (fun p=>p.1.nd) fun n ih=>l9 (fun fn h=>d18 h) [(37,(b0v Ob.sm fun o=>.c (.b o.fm)).lt _ n),(24,_),(61,_),(59,_)] (.cons ih (.cons b6r (.cons c1y (.cons b6q .nil)))) fun U fn hfn ⟨⟨o,hsm⟩,hn⟩ vs bs hv hb=>by
 have hr:=hfn 37 _ rfl
 have hred:=hfn 24 _ rfl
 have hdg:=hfn 61 _ rfl
 have hnm:=hfn 59 _ rfl
 have hv:j6 [.a o.g] vs:=hv
 have hb:RBs [] bs:=hb
 have hn:o.nd < n+1:=hn
 have h9a:=hsm.1.1
 have h9b:=hsm.1.2.1
 have h9c:=hsm.1.2.2.1
 have h9d:=hsm.1.2.2.2
 show g8 U _ fun v bs'=>j7 (.ret (.c (.b o.fm))) v∧RBs [] bs'
 unfold r37
 rw [o.g_eq] at hv
 have fin:∀ (b:Bool),o.fm=b→g8 U (some (.ret (.known b),[])) fun v bs'=>j7 (.ret (.c (.b o.fm))) v∧RBs [] bs':=fun b h=>i7 ⟨.ret _ _ (F2 h),.nil⟩
 have z0:n5 0 0=([]:f6):=rfl
 (refine Zq ?_;with_reducible repeat' first|intro _|apply aI)
 ·have hf:=a91 ‹o.k=1›
  rw [c6i] at hf
  refine f9 hred ⟨(o.nu,o.de),by show o.nu.length < 2160000;omega,by show o.de.length < 2160000;omega⟩ (r:=.t [.c (.s (m7 o.nu o.de).1),.c (.s (m7 o.nu o.de).2)]) rfl j3 .nil fun _ _ _ _=>?_
  generalize m7 o.nu o.de=q at *
  obtain ⟨q1,q2⟩:=q
  simp only at *
  (refine Zq ?_;with_reducible repeat' first|intro _|apply aI)
  ·(refine B5 (f:=Ob.g) aS (u0 Ob.g_len) fun _ _ _=>?_)
   (refine Zq ?_;with_reducible repeat' first|intro _|apply aI)
   ·have hb1:y9 o true false false=true:=by clear hv hb hfn;simp_all [y9]
    have hl0:decide (o.ps.obs.length=0)=true:=decide_eq_true oM
    have e1:=‹q1=o.nu›
    have e2:=‹q2=o.de›
    subst e1 e2
    rw [hb1,hl0,Bool.true_and,Bool.true_and] at hf
    refine f9 hdg ⟨o.nu,by show o.nu.length < 21600000;omega⟩ (r:=.c (.i .i64 (A6 o.nu))) rfl j3 .nil fun _ _ _ _=>?_
    (refine Zq ?_;with_reducible repeat' first|intro _|apply aI)
    ·refine f9 hdg ⟨o.de,by show o.de.length < 21600000;omega⟩ (r:=.c (.i .i64 (A6 o.de))) rfl j3 .nil fun _ _ _ _=>?_
     (refine Zq ?_;intros)
     refine D5 fun e=>?_
     subst e
     refine ⟨.ret _ _ (M5 ?_),.nil⟩
     rw [c0y,hf]
     apply decide_eq_decide.2
     constructor
     ·intro h;have:=h.2.2;omega
     ·intro h;exact ⟨rfl,oM,oM⟩
    ·exact fin false (hf.trans (decide_eq_false fun h=>by have:=h.2.1;omega))
   all_goals exact fin false (hf.trans (by clear hv hb hfn;simp_all [y9]))
  all_goals exact fin false (hf.trans (by clear hv hb hfn;simp_all [y9]))
 ·have hf:=a8d ‹o.k=2›
  have hc:=(‹u3 (List.drop 3 _) _ 0›).take 2
  refine f9 hnm ⟨o.s,oM,oM⟩ (r:=.c (.b (named o.s))) rfl (.k (.a _ _ _ rfl (by exact hc)) .nil) .nil fun _ _ _ _=>?_
  (refine Zq ?_;with_reducible repeat' first|intro _|apply aI)
  ·(refine B5 (f:=Ob.g) aS (u0 Ob.g_len) fun _ _ _=>?_)
   (refine Zq ?_;intros)
   have hb1:y9 o false true false=true:=by clear hv hb hfn;simp_all [y9]
   refine D5 fun e=>?_
   subst e
   refine ⟨.ret _ _ (M5 ?_),.nil⟩
   rw [a02,hf,hb1,‹named o.s=true›,Bool.true_and,Bool.and_true]
   apply decide_eq_decide.2
   omega
  all_goals exact fin false (hf.trans (by clear hv hb hfn;simp_all [y9]))
 ·have hf:=a2z ‹o.k=3›
  (refine B5 (f:=Ob.g) aS (u0 Ob.g_len) fun _ _ _=>?_)
  (refine Zq ?_;intros)
  have hb1:y9 o false false true=true:=by clear hv hb hfn;simp_all [y9]
  refine D5 fun e=>?_
  subst e
  refine ⟨.ret _ _ (M5 ?_),.nil⟩
  rw [a02,hf,hb1,decide_eq_true (by omega:o.t.length≤200),Bool.true_and,Bool.and_true]
  apply decide_eq_decide.2
  omega
 ·exact fin false ((a2z ‹o.k=3›).trans (by rw [decide_eq_false (by omega:¬o.t.length≤200),Bool.and_false]))
 ·exact fin false ((a2z ‹o.k=3›).trans (by clear hv hb hfn;simp_all [y9]))
 ·exact fin false ((a2z ‹o.k=3›).trans (by clear hv hb hfn;simp_all [y9]))
 ·exact fin false ((a2z ‹o.k=3›).trans (by clear hv hb hfn;simp_all [y9]))
 ·have hb1:y9 o false false false=true:=by clear hv hb hfn;simp_all [y9]
  (refine B5 (f:=Ob.g) aS (u0 Ob.g_len) fun _ _ _=>?_)
  (refine Zq ?_;with_reducible repeat' first|intro _|apply aI)
  ·obtain ⟨a,b,e⟩:=d29 ‹_›
   have hab:=d2q e hsm
   have hnd2:=c2h e
   have hp1:=a.nd_pos
   have hp2:=b.nd_pos
   have hf:=a4s e ‹o.k=4›
   rw [hb1,Bool.true_and] at hf
   simp only [e] at *
   (refine B5 (f:=Ob.g) aS (u0 Ob.g_len) fun _ _ _=>?_)
   (refine Zq ?_;intros)
   refine f9 hr ⟨⟨a,hab.1⟩,show a.nd < n by omega⟩ (r:=.c (.b a.fm)) rfl j3 .nil fun _ _ _ _=>?_
   (refine Zq ?_;with_reducible repeat' first|intro _|apply aI)
   ·(refine B5 (f:=Ob.g) aS (u0 Ob.g_len) fun _ _ _=>?_)
    (refine Zq ?_;intros)
    refine f9 hr ⟨⟨b,hab.2⟩,show b.nd < n by omega⟩ (r:=.c (.b b.fm)) rfl j3 .nil fun _ _ _ _=>?_
    (refine Zq ?_;intros)
    rw [hf,‹a.fm=true›,Bool.true_and]
    exact i7 ⟨.ret _ _ (.b _),.nil⟩
   ·exact fin false (hf.trans (by rw [Bool.eq_false_iff.2 ‹¬a.fm=true›];rfl))
  ·exact fin false (b91 (fun x y e=>absurd (by rw [e];rfl) ‹¬((o.ps.obs.length:Nat):Int)=2›) ‹o.k=4›)
 all_goals first
  | exact fin false (c1n aS aS aS aS)
  | (have hb1:y9 o false false false=false:=by clear hv hb hfn;simp_all [y9]
     rcases a7a o.ps with ⟨a,b,e⟩ | ⟨hne,hno⟩
     ·exact fin false ((a4s e ‹o.k=4›).trans (by rw [hb1];rfl))
     ·exact fin false (b91 hno ‹o.k=4›))
theorem d4p:j4 18 (b0v Ob.sm fun o=>.c (.b o.vd)):=l9 (fun fn h=>d17 h) [(5,_),(37,_)] (.cons c6b (.cons d4i .nil)) fun U fn hfn ⟨o,hsm⟩ vs bs hv hb=>by
 have hn:=hfn 5 _ rfl
 have hf:=hfn 37 _ rfl
 have hv:j6 [.a o.g] vs:=hv
 have hb:RBs [] bs:=hb
 show g8 U _ fun v bs'=>j7 (.ret (.c (.b o.vd))) v∧RBs [] bs'
 unfold r18
 (refine Zq ?_;intros)
 refine f9 hn ⟨o,trivial⟩ (r:=.c (.i .i64 (min o.nd 3001:Nat))) rfl j3 .nil fun _ _ _ _=>?_
 (refine Zq ?_;with_reducible repeat' first|intro _|apply aI)
 ·refine f9 hf ⟨o,hsm⟩ (r:=.c (.b o.fm)) rfl j3 .nil fun _ _ _ _=>?_
  (refine Zq ?_;intros)
  unfold Ob.vd
  rw [decide_eq_true (by omega:o.nd≤3000),Bool.true_and]
  exact i7 ⟨.ret _ _ (.b _),.nil⟩
 ·exact i7 ⟨.ret _ _ (F2 (by unfold Ob.vd;rw [decide_eq_false oM];rfl)),.nil⟩
end
end Go.Proofs.YtgipbdffgfbedaaGreatDoor
namespace Go.Proofs.YtgipbdffgfbedaaGreatDoor
open Go.Abs LQ
abbrev Pk:=f6 × List Sy
def pg (p:Pk):List G:=[.s p.1,.l (p.2.map sg)]
def C6:List Pk→f6→Option Pk
 | [],_=>none
 | p :: l,n=>if p.1=n then some p else C6 l n
def a07:List Sy→f6→Option Sy
 | [],_=>none
 | s :: l,n=>if s.2=n then some s else a07 l n
def B6 (L:List Pk) (cur nm:f6):Sy × Int :=
 match C6 L cur with
 | none=>(([],[]),13)
 | some p=>if nm.length < 1∨40 < nm.length then (([],[]),3) else
  match a07 p.2 nm with
  | some s=>(s,0)
  | none=>((cur,nm),0)
def a1n (L:List Pk) (cur:f6) (s:Sy):Bool:=decide ((B6 L cur s.2).2=0∧(B6 L cur s.2).1=s)
def G7 (L:List Pk) (s:Sy):Bool:=a1n L s.1 s
def t0:A8:=⟨0,0,[],[],[]⟩
def z8:O:=.sy (x9,[113,117,111,116,101])
def c8e:List O→O→O
 | [],e=>e
 | x :: l,e=>.co x (c8e l e)
def f4x (t:A8):O:=.num (f8 t.text) (f8 t.den).natAbs
mutual
/-- The object at a token, inside depth others, and the place behind it; or the error and its offset. -/
def c8o (L:List Pk) (cur:f6) (T:List A8):Nat→Nat→Nat→Except (Int × Nat) (O × Nat)
 | 0,_,_=>.error (0,0)
 | n+1,d,i =>
  let t:=T.getD i t0
  if t.kind=0 then .error (11,t.pos)
  else if t.kind=2∨t.kind=3 then .error (12,t.pos)
  else if t.kind=5 then .ok (f4x t,i+1)
  else if t.kind=7 then .ok (.tx t.text,i+1)
  else if t.kind=6 then
   let r:=B6 L (if t.pkg=[] then cur else t.pkg) t.text
   if r.2=0 then .ok (.sy r.1,i+1) else .error (r.2,t.pos)
  else if 200 < d then .error (2,t.pos)
  else if t.kind=4 then
   match c8o L cur T n (d+1) (i+1) with
   | .error e=>.error e
   | .ok (x,j)=>.ok (a3k [z8,x],j)
  else d7b L cur T n (d+1) (i+1) []
/-- The rest of a list. -/
def d7b (L:List Pk) (cur:f6) (T:List A8):Nat→Nat→Nat→List O→Except (Int × Nat) (O × Nat)
 | 0,_,_,_=>.error (0,0)
 | n+1,d,i,acc =>
  let t:=T.getD i t0
  if t.kind=2 then .ok (c8e acc A7,i+1)
  else if t.kind=3∧acc ≠ [] then
   match c8o L cur T n d (i+1) with
   | .error e=>.error e
   | .ok (x,j) =>
    let u:=T.getD j t0
    if u.kind=2 then .ok (c8e acc x,j+1)
    else if u.kind=0 then .error (11,u.pos)
    else .error (12,u.pos)
  else
   match c8o L cur T n d i with
   | .error e=>.error e
   | .ok (x,j)=>d7b L cur T n d j (acc ++ [x])
end
def D2 (name:f6) (q:Bool):f6:=if L3 name=false∨(q=false∧(name=[46]∨(n6 name).2.2=true)) then D3 124 name else name
def H3 (L:List Pk) (cur:f6) (s:Sy):f6 × Int :=
 if named s=false then ([],1)
 else if C6 L cur=none∨G7 L s=false then ([],13)
 else if a1n L cur s=true then (D2 s.2 false,0)
 else (s.1 ++ 58 :: 58 :: D2 s.2 true,0)
def M6 (L:List Pk) (cur:f6):O→f6
 | .num n d=>b28 n d
 | .tx t=>D3 34 t
 | .sy s=>(H3 L cur s).1
 | _=>[]
noncomputable section
open Classical
def pT (L:List Pk) (cur:f6):O→f6 × f6 × Option f6
 | .co a d=>((if a=z8 then match (pT L cur d).2.2 with
   | some t=>39 :: t
   | none=>40 :: ((pT L cur a).1 ++ (pT L cur d).2.1)
   else 40 :: ((pT L cur a).1 ++ (pT L cur d).2.1)),32 :: ((pT L cur a).1 ++ (pT L cur d).2.1),if d=A7 then some (pT L cur a).1 else none)
 | o=>(M6 L cur o,(if o=A7 then [41] else 32 :: 46 :: 32 :: (M6 L cur o ++ [41])),none)
def A0 (L:List Pk) (cur:f6) (o:O):f6:=(pT L cur o).1
def v8 (L:List Pk):O→Bool
 | .sy s=>G7 L s
 | .co a d=>v8 L a && v8 L d
 | _=>true
structure NT where
 kind:Int
 pkg:f6
 text:f6
 den:f6
def nt (t:A8):NT:=⟨t.kind,t.pkg,t.text,t.den⟩
def okA (L:List Pk):O→Prop
 | .num n d=>0 < d∧Nat.gcd n.natAbs d=1∧(f7 n.natAbs).length≤100∧(f7 d).length≤100
 | .tx t=>t.length≤200
 | .sy s=>named s=true∧G7 L s=true
 | .co a d=>okA L a∧okA L d
 | .no=>False
theorem d5h {p:f6} (h:p8 p=true):a7s p∧p ≠ []:=by
 have hb:F1 p 0=true∧1≤p.length:=by simp [p8] at h;exact ⟨h.2,h.1.1⟩
 refine ⟨?_,fun e=>by rw [e] at hb;simp at hb⟩
 have key:∀ n k,p.length - k=n→F1 p k=true→∀ j,k≤j→j < p.length→a0p (bt p j)=true:=by
  intro n
  induction n with
  | zero=>intro k hk _ j h1 h2;omega
  | succ n ih =>
   intro k hk hp j h1 h2
   rw [F1,if_pos oM] at hp
   split at hp
   ·rename_i hc
    by_cases hj:j=k
    ·subst hj;exact hc
    ·exact ih (k+1) oM hp j oM h2
   ·cases hp
 intro j hj
 have:=key _ 0 rfl hb.1 j (Nat.zero_le _) hj
 simp [a0p] at this
 simp [s7];omega
theorem a0d {s:Sy} (h:named s=true):p8 s.1=true∧s.2.length≤40∧0 < s.2.length:=by
 simp [named] at h;exact ⟨h.1,h.2.2,h.2.1⟩
def Lex (w:f6) (N:List NT):Prop:=∀ s i r,At s i w r→Del r→∃ T:List A8,T.map nt=N∧∀ acc,y7 s i acc=y7 s (i+w.length) (acc ++ T)
theorem c6h {w:f6} {n:NT} (h:∀ s i r,At s i w r→Del r→∃ t:A8,nt t=n∧∀ acc,y7 s i acc=y7 s (i+w.length) (acc ++ [t])):Lex w [n]:=fun s i r ha hr=>by
 obtain ⟨t,h1,h2⟩:=h s i r ha hr
 exact ⟨[t],by simp [h1],h2⟩
theorem d4q {w:f6} (h0:0 < w.length) (hl:w.length≤40):Lex (D2 w false) [⟨6,[],w,[]⟩]:=c6h fun s i r ha hr=>by
 unfold D2 at ha ⊢
 split at ha
 ·rename_i hc;rw [if_pos hc];exact ⟨_,rfl,fun acc=>d6b ha hl h0⟩
 ·rename_i hc
  rw [if_neg hc]
  have h1:L3 w=true:=by cases hs:L3 w with | true=>rfl | false=>exact absurd (.inl hs) hc
  have h2:w ≠ [46]:=fun e=>hc (.inr ⟨rfl,.inl e⟩)
  have h3:(n6 w).2.2=false:=by cases hs:(n6 w).2.2 with | false=>rfl | true=>exact absurd (.inr ⟨rfl,.inr hs⟩) hc
  exact ⟨_,rfl,fun acc=>d23 ha h1 hr h2 h3 hl⟩
theorem d4r {p w:f6} (hp:p8 p=true) (h0:0 < w.length) (hl:w.length≤40):Lex (p ++ 58 :: 58 :: D2 w true) [⟨6,p,w,[]⟩]:=c6h fun s i r ha hr=>by
 obtain ⟨g1,g2⟩:=d5h hp
 unfold D2 at ha ⊢
 split at ha
 ·rename_i hc;rw [if_pos hc];exact ⟨_,rfl,fun acc=>d24 ha g1 g2 hp hl h0⟩
 ·rename_i hc
  rw [if_neg hc]
  have h1:L3 w=true:=by cases hs:L3 w with | true=>rfl | false=>exact absurd (.inl hs) hc
  exact ⟨_,rfl,fun acc=>d25 ha g1 g2 hp h1 hr hl⟩
end
end Go.Proofs.YtgipbdffgfbedaaGreatDoor
