/- strings.ContainsRune: bytes above 127 among blanks. -/
import Derived.Scope
import Derived.Test.YtgipbdffgfbedaaGreatDoorCJ19
set_option linter.all false
namespace Go.Proofs.YtgipbdffgfbedaaGreatDoor
open Go.RowKit Go.Shelf Go.Abs LQ
set_option maxRecDepth 100000
set_option maxHeartbeats 4000000
theorem d3i (r:Int) (h1:128≤r) (h2:r < 256) (w:World) :
  Calls Tryz.prog 162 #[.int .i32 r] w fun e w'=>e=.returned (.bool true)∧w'=w:=by
 have a1:decide (0≤r)=true:=by simp;omega
 have a2:decide (r < 55296)=true:=by simp;omega
 go_enter Tryz.func162,Tryz.ntmps162
 go_wp2
 go_ret
 exact ⟨rfl,rfl⟩
theorem c4g (r:Int) (h1:128≤r) (h2:r < 256):∃ x y:UInt8,Utf8.encode r=⟨#[x,y]⟩∧128≤y.toNat:=by
 have key:∀ n:Fin 128,Utf8.encode ((n.1+128:Nat):Int)=⟨#[UInt8.ofNat (192+(n.1+128) / 64),UInt8.ofNat (128+(n.1+128) % 64)]⟩:=dE
 have k2:∀ n:Fin 128,128≤(UInt8.ofNat (128+(n.1+128) % 64)).toNat:=dE
 obtain ⟨n,rfl⟩:∃ n:Nat,r=((n+128:Nat):Int):=⟨(r - 128).toNat,oM⟩
 exact ⟨_,_,key ⟨n,oM⟩,k2 ⟨n,oM⟩⟩
theorem d8w (y:UInt8) (hy:128≤y.toNat) (S:ByteArray) (hS:S.data.toList=[10,13]) (c:Int) (hc:c=(y.toNat:Int)) (w:World):Calls Tryz.prog 133 #[.string S,.int .u8 c] w fun e w'=>e=.returned (.int .i64 (-1))∧w'=w:=by
 refine (Any.strings_IndexByte Tryz.lays137 S c w).mono ?_
 rintro e w' ⟨rfl,rfl⟩
 refine ⟨?_,rfl⟩
 have key:∀ y:UInt8,128≤y.toNat→Lib.indexByte [10,13] y=-1:=by
  intro y hy
  have h1:¬(10:UInt8)=y:=by rintro rfl;simp at hy
  have h2:¬(13:UInt8)=y:=by rintro rfl;simp at hy
  simp [Lib.indexByte,h1,h2]
 subst hc
 have e1:((y.toNat:Int)).toNat.toUInt8=y:=by simp
 rw [hS,e1,key y hy]
theorem b6n (r:Int) (h1:128≤r) (h2:r < 256) (w:World) :
  Calls Tryz.prog 143 #[.string ⟨#[32,9,10,13]⟩,.int .i32 r] w fun e w'=>e=.returned (.int .i64 (-1))∧∃ n,w'=w.drewN n:=by
 have a1:decide (0≤r)=true:=by simp;omega
 have a2:decide (r < 128)=false:=by simp;omega
 have a3:(r == 65533)=false:=by simp;omega
 go_enter Tryz.func143,Tryz.ntmps143
 go_wp2_with (first
  | (go_at_call 162;refine (d3i r h1 h2 _).mono ?_;rintro e w1 ⟨rfl,rfl⟩))
 obtain ⟨x,y,hE,hy⟩:=c4g r h1 h2
 have hne:((9:Int) != (y.toNat:Int))=true:=by simp;omega
 have hne2:((((⟨#[32,9,10,13]⟩:ByteArray)[1]'dE).toNat:Int) != (((⟨#[x,y]⟩:ByteArray)[1]'(by show 1 < 2;decide)).toNat:Int))=true:=hne
 refine wp_scope_straight ?_
 go_wp2
 go_loop [9] (fun v=>v=.int .i64 1) (fun _=>0)
 case atStart=>rfl
 case round =>
  subst hrel
  go_wp2
  refine wp_scope_straight ?_
  go_wp2
  go_quiet (fail)
  go_wp2
  go_quiet (first | (go_at_call 133;refine (d8w y hy _ dE _ rfl _).mono ?_;rintro e w' ⟨rfl,rfl⟩;exact ⟨rfl,_,rfl⟩))
  go_wp2
  exact ⟨rfl,_,results_tmp rfl _ _ _,rfl,_,rfl⟩
theorem b9i (r:Int) (h1:128≤r) (h2:r < 256) (w:World) :
  Calls Tryz.prog 132 #[.string ⟨#[32,9,10,13]⟩,.int .i32 r] w fun e w'=>e=.returned (.bool false)∧∃ n,w'=w.drewN n:=by
 go_enter Tryz.func132,Tryz.ntmps132
 go_wp2_with (first
  | (go_at_call 143;refine (b6n r h1 h2 _).mono ?_;rintro e w1 ⟨rfl,n,rfl⟩))
 go_ret
 exact ⟨rfl,_,rfl⟩
noncomputable section
theorem kCR:j4 132 c9k:=fun ⟨(s,r),h0,h1⟩ vs bs hv hb=>by
 by_cases h:r < 128
 ·obtain ⟨v,bs',a,b,c⟩:=b8d ⟨(s,r),h0,h⟩ vs bs hv hb
  refine ⟨v,bs',a,?_,c⟩
  change j7 (.ret (.c (.b (decide (0≤Lib.indexByte s r.toNat.toUInt8))))) v at b
  show j7 (.ret (.c (.b (decide (r < 128∧0≤Lib.indexByte s r.toNat.toUInt8))))) v
  rw [show (decide (r < 128∧0≤Lib.indexByte s r.toNat.toUInt8))=decide (0≤Lib.indexByte s r.toNat.toUInt8) by simp [h]]
  exact b
 ·have h1:r < 128∨r < 256∧s=n5 4 218761504:=h1
  obtain ⟨h2,rfl⟩:=h1.resolve_left h
  change j6 [.c (.s (n5 4 218761504)),.c (.i .i32 r)] vs at hv
  cases hb
  have e1:decide (r < 128∧0≤Lib.indexByte (n5 4 218761504) r.toNat.toUInt8)=false:=by simp [h]
  refine ⟨.ret (.bool false),[],fun hok=>?_,?_,.nil⟩
  ·rw [c3r hv]
   refine K7 (d:=.bool false) Tryz.call132 fun w S M us hg hwi hr=>?_
   rw [c2z hr]
   have e2:(n5 4 218761504).toArray=#[32,9,10,13]:=dE
   rw [e2]
   refine (b9i r oM h2 w).mono ?_
   rintro e w' ⟨rfl,n,rfl⟩
   exact ⟨⟨rfl,rfl,rfl,Nat.le_refl _,fun _ _=>rfl⟩,_,S,rfl,⟨fun _ _ h=>h,fun _ _ h=>.inl h⟩,hwi,.bool _,Q0 (fun _ _ _ h=>by cases h) (fun _ h=>by cases h)⟩
  ·show j7 (.ret (.c (.b (decide (r < 128∧0≤Lib.indexByte (n5 4 218761504) r.toNat.toUInt8))))) _
   rw [e1]
   exact .ret _ _ (.b _)
end
end Go.Proofs.YtgipbdffgfbedaaGreatDoor
namespace Go.Proofs.YtgipbdffgfbedaaGreatDoor
open Go.Abs LQ
set_option maxRecDepth 100000
set_option maxHeartbeats 1000000
noncomputable section
def a33:V:=.agg [.int .i64 0,.str 0 0,.str 0 0,.str 0 0,.str 0 0,.str 0 0,.slice .nil 1 0 0 .no]
theorem e2u:j4 89 c3k:=e8t kIS f4b kCR
theorem d4o:j4 75 c3l:=d9b e2u
set_option maxHeartbeats 4000000
theorem c4o (n:Int) (d:Nat):U4 (g7 n) (f7 d)=(O.num n d).fm:=by
 unfold U4
 rw [a88,T7,← a03,← a03,Bool.true_and,Bool.true_and,Bool.eq_iff_iff]
 simp only [O.fm,Bool.and_eq_true,decide_eq_true_iff]
 constructor
 ·rintro ⟨⟨h1,h2⟩,h3⟩;exact ⟨h3,h1,h2⟩
 ·rintro ⟨h3,h1,h2⟩;exact ⟨⟨h1,h2⟩,h3⟩
theorem b4z:∀ o:O,(L6 o).fm=o.fm
 | .num n d=>by
  rw [a91 (o:=L6 (.num n d)) rfl,← c4o]
  simp [y9,L6,RT.obs]
 | .sy s=>by
  rw [a8d (o:=L6 (.sy s)) rfl]
  simp [y9,L6,RT.obs,O.fm]
 | .tx t=>by
  rw [a2z (o:=L6 (.tx t)) rfl,Bool.eq_iff_iff]
  simp [y9,L6,RT.obs,O.fm]
  exact decide_eq_true_iff
 | .co a d=>by
  rw [a4s (b61 a d) rfl,b4z a,b4z d]
  simp [y9,L6,O.fm]
 | .no=>by
  rw [c1n (o:=L6 .no) dE dE dE dE];rfl
theorem c28 {gs gs':List G} {q:Q} {k:Nat} (h:u3 gs q 0) (e:gs.take k=gs') (hk:k=gs'.length):RV (.a gs') (.a q k):=.a _ _ _ hk (e ▸ h.take k)
structure okV (o:O):Prop where
 fm:o.fm=true
 size:o.size≤3000
theorem c9g {n:Int} {k:Nat} (h:(f7 n.natAbs).length≤k):(g7 n).length≤k+1:=by
 rw [a1c,List.length_append]
 have:(LQ.sgn n).length≤1:=by unfold LQ.sgn;split <;> simp
 omega
theorem e2d {n:Int} {d:Nat} (h:(O.num n d).fm=true):(g7 n).length≤101∧(f7 d).length≤100:=by
 have h:m7 (g7 n) (f7 d)=(g7 n,f7 d)∧A6 (g7 n)≤100∧A6 (f7 d)≤100:=by simpa [O.fm] using h
 have h2:=h.2.1
 have h3:=h.2.2
 rw [a6b] at h2
 rw [a19] at h3
 exact ⟨c9g h2,h3⟩
theorem lt8:(0:Nat) < 1920000:=dE
theorem lt9:(0:Nat) < 21600000:=dE
theorem b92:∀ {o:O},o.fm=true→o.sm∧(L6 o).sm
 | .num n d,h=>by
  have h:=e2d h
  exact ⟨⟨oM,oM⟩,⟨by show (g7 n).length < 1920000;omega,by show (f7 d).length < 1920000;omega,lt9,lt9⟩,trivial⟩
 | .sy s,h=>by
  have h1:=a0d (s:=s) h
  have h2:=a8i (s:=s) h
  exact ⟨⟨oM,oM⟩,⟨lt8,lt8,by show s.1.length < 21600000;omega,by show s.2.length < 21600000;omega⟩,trivial⟩
 | .tx t,h=>by
  have h:t.length≤200:=by simpa [O.fm] using h
  exact ⟨by show t.length < 2160000;omega,⟨lt8,lt8,lt9,lt9⟩,trivial⟩
 | .co a d,h=>by
  have h:a.fm=true∧d.fm=true:=by simpa [O.fm] using h
  obtain ⟨a1,a2⟩:=b92 h.1
  obtain ⟨d1,d2⟩:=b92 h.2
  exact ⟨⟨a1,d1⟩,⟨lt8,lt8,lt9,lt9⟩,a2.1,a2.2,d2.1,d2.2,trivial⟩
 | .no,h=>by cases h
def e7i (r:GV):Sp where
 ι:={ o:O // okV o }
 A o:=[.a o.1.g]
 B _:=[]
 R _:=.ret r
 B' _:=[]
 inj i j vs bs h k _ _:=⟨rfl,rfl⟩
theorem d9e:j4 25 (e7i (.c (.b true))):=(b6u kIS).via (fun o=>⟨L6 o.1,(b92 o.2.fm).2⟩) fun o=>⟨by show [GV.a o.1.g]=[GV.a (L6 o.1).g];rw [b96],rfl,by
 show _=o8.ret (.c (.b (L6 o.1).vd))
 unfold Ob.vd
 rw [b40,b4z,o.2.fm,decide_eq_true o.2.size];rfl,rfl⟩
theorem d9f:j4 18 (e7i (.c (.b true))):=d9d.via (fun o=>⟨o.1,(b92 o.2.fm).1⟩) fun o=>⟨rfl,rfl,by
 show _=o8.ret (.c (.b (decide (o.1.size≤3000) && o.1.fm)))
 rw [o.2.fm,decide_eq_true o.2.size];rfl,rfl⟩
def E4 (L:List Pk) (cur:f6) (o:O):f6 × Int:=if C6 L cur=none∨v8 L o=false then ([],13) else (A0 L cur o,0)
theorem d7d {L:List Pk} {o:O} (h:okV o) (k:v8 L o=true):okA L o:=c1o h.fm k
theorem b62:∀ {p:RT},p.obs.length=0→p=.nil
 | .nil,_=>rfl
 | .node ..,h=>by simp [RT.obs] at h
theorem d47:∀ {p:RT} {a b:Ob},p.obs=[a,b]→p=.node a.k a.nu a.de a.s a.t a.ps (.node b.k b.nu b.de b.s b.t b.ps .nil)
 | .nil,_,_,h=>by simp [RT.obs] at h
 | .node _ _ _ _ _ _ .nil,_,_,h=>by simp [RT.obs] at h
 | .node _ _ _ _ _ _ (.node _ _ _ _ _ _ .nil),a,b,h=>by
  simp only [RT.obs,List.cons.injEq,and_true] at h
  obtain ⟨rfl,rfl⟩:=h
  rfl
 | .node _ _ _ _ _ _ (.node _ _ _ _ _ _ (.node ..)),_,_,h=>by simp [RT.obs] at h
theorem e0v {nu de:f6} (h:m7 nu de=(nu,de)):∃ n d,nu=g7 n∧de=f7 d:=by
 have key:∃ n d,m7 nu de=(g7 n,f7 d):=by
  unfold m7
  split
  ·exact ⟨0,1,by rw [a2h];rfl⟩
  ·exact ⟨_,_,rfl⟩
 obtain ⟨n,d,e⟩:=key
 rw [h] at e
 injection e with e1 e2
 exact ⟨n,d,e1,e2⟩
theorem e2e:∀ (n:Nat) (o:Ob),o.sz≤n→o.fm=true→∃ x:O,o=L6 x:=by
 intro n
 induction n with
 | zero=>intro o h;simp [Ob.sz] at h
 | succ n ih =>
  intro o h hf
  by_cases k1:o.k=1
  ·rw [a91 k1,c6i] at hf
   simp only [Bool.and_eq_true,decide_eq_true_iff,y9,Bool.true_or,Bool.false_or,true_and] at hf
   obtain ⟨⟨⟨hs,ht⟩,hp⟩,hr,_⟩:=hf
   obtain ⟨a,d,e1,e2⟩:=e0v hr
   obtain ⟨k,nu,de,s,t,ps⟩:=o
   simp only at *
   rw [k1,e1,e2,(Prod.ext hs.1 hs.2:s=([],[])),ht,b62 hp]
   exact ⟨.num a d,rfl⟩
  by_cases k2:o.k=2
  ·rw [a8d k2] at hf
   simp only [Bool.and_eq_true,decide_eq_true_iff,y9,Bool.true_or,Bool.false_or,and_true] at hf
   obtain ⟨⟨⟨hs,ht⟩,hp⟩,_⟩:=hf
   obtain ⟨k,nu,de,s,t,ps⟩:=o
   simp only at *
   rw [k2,hs.1,hs.2,ht,b62 hp]
   exact ⟨.sy s,rfl⟩
  by_cases k3:o.k=3
  ·rw [a2z k3] at hf
   simp only [Bool.and_eq_true,decide_eq_true_iff,y9,Bool.true_or,Bool.false_or,and_true] at hf
   obtain ⟨⟨⟨hs,ht⟩,hp⟩,_⟩:=hf
   obtain ⟨k,nu,de,s,t,ps⟩:=o
   simp only at *
   rw [k3,hs.1,hs.2,(Prod.ext ht.1 ht.2:s=([],[])),b62 hp]
   exact ⟨.tx t,rfl⟩
  by_cases k4:o.k=4
  ·rcases a7a o.ps with ⟨a,b,e⟩ | ⟨_,hno⟩
   ·rw [a4s e k4] at hf
    simp only [Bool.and_eq_true,decide_eq_true_iff,y9,Bool.false_or] at hf
    obtain ⟨⟨⟨⟨hs,ht⟩,hx⟩,ha⟩,hb⟩:=hf
    have hz:=RT.two_sz e
    have hso:o.sz=1+o.ps.sz:=rfl
    have pa:1≤a.sz:=by simp [Ob.sz]
    have pb:1≤b.sz:=by simp [Ob.sz]
    obtain ⟨x,rfl⟩:=ih a oM ha
    obtain ⟨y,rfl⟩:=ih b oM hb
    have hp:=d47 e
    obtain ⟨k,nu,de,s,t,ps⟩:=o
    simp only at *
    rw [k4,hs.1,hs.2,(Prod.ext ht.1 ht.2:s=([],[])),hx,hp]
    exact ⟨.co x y,rfl⟩
   ·rw [b91 hno k4] at hf;cases hf
  rw [c1n k4 k1 k2 k3] at hf
  cases hf
theorem e7q {o:Ob} (h:o.vd=true):∃ x:O,o=L6 x∧okV x:=by
 unfold Ob.vd at h
 rw [Bool.and_eq_true,decide_eq_true_iff] at h
 obtain ⟨x,rfl⟩:=e2e o.sz o (Nat.le_refl _) h.2
 exact ⟨x,rfl,by rw [← b4z];exact h.2,by rw [← b40];exact h.1⟩
end
end Go.Proofs.YtgipbdffgfbedaaGreatDoor
namespace Go.Proofs.YtgipbdffgfbedaaGreatDoor
open Go.Abs LQ Go.RowKit Go.Shelf
set_option maxRecDepth 100000
set_option maxHeartbeats 2000000
noncomputable section
def a1s (o:O):Prop:=∃ q,u3 o.g q 0
theorem e10 {gs:List G} {v:V} (h:RV (.a gs) v):∃ q,u3 gs q 0:=by
 cases h with
 | a _ q _ _ h=>exact ⟨q,h⟩
 | ag _ cs h=>obtain ⟨qs,_,k⟩:=b4a h;exact ⟨_,k.cel⟩
theorem a1s.rv {o:O} (h:a1s o):∃ v,RV (.a o.g) v:=h.elim fun q h=>⟨_,.a _ q 7 (O.g_len o).symm h⟩
theorem a1s.two {a d:O} (h:a1s (.co a d)):a1s a∧a1s d:=by
 obtain ⟨q,h⟩:=h
 have h6:RG (.l [a.g,d.g]) (celQ q (0+6)):=h.get rfl
 generalize celQ q (0+6)=x at h6
 cases h6 with
 | l _ t n off len _ h =>
  cases h with
  | cons _ _ _ _ _ _ h1 _ h =>
   cases h with
   | cons _ _ _ _ _ _ h2 _ h=>exact ⟨⟨_,h1⟩,⟨_,h2⟩⟩
abbrev ob7 (o:O) (c6:Value):Array Value:=#[.int .i64 o.k,.string ⟨o.nu.toArray⟩,.string ⟨o.de.toArray⟩,.string ⟨o.sym.1.toArray⟩,.string ⟨o.sym.2.toArray⟩,.string ⟨o.txt.toArray⟩,c6]
section
variable {S:k8} {M:Mp} {w:World}
theorem X5 {v:Value} {s:f6} (h:Rd S M w v (.str s)):v=.string ⟨s.toArray⟩:=by
 cases h with
 | str t _ e=>subst e;rfl
theorem b29 {o:O} {cs:List Value} (h:p9 S M w cs (o.g.map dG)):∃ c6,cs=(ob7 o c6).toList∧Rd S M w c6 (dG (.l (o.ps.map O.g))):=by
 rw [o.g_eq] at h
 cases h with
 | cons _ _ _ _ h0 h =>
 cases h with
 | cons _ _ _ _ h1 h =>
 cases h with
 | cons _ _ _ _ h2 h =>
 cases h with
 | cons _ _ _ _ h3 h =>
 cases h with
 | cons _ _ _ _ h4 h =>
 cases h with
 | cons _ _ _ _ h5 h =>
 cases h with
 | cons v _ _ _ h6 h =>
 cases h
 simp only [dG] at h0 h1 h2 h3 h4 h5
 have e1:=X5 h1
 have e2:=X5 h2
 have e3:=X5 h3
 have e4:=X5 h4
 have e5:=X5 h5
 cases h0
 subst e1 e2 e3 e4 e5
 exact ⟨v,rfl,h6⟩
theorem d6k {o:O} {c6:Value} (h:Rd S M w c6 (dG (.l (o.ps.map O.g)))):p9 S M w (ob7 o c6).toList (o.g.map dG):=by
 rw [o.g_eq]
 simp only [List.map_cons,List.map_nil,dG]
 exact .k (.int _ _) (.k (.str _ _ rfl) (.k (.str _ _ rfl) (.k (.str _ _ rfl) (.k (.str _ _ rfl) (.k (.str _ _ rfl) (.k (by simpa only [dG] using h) .nil))))))
theorem d1y {a d:O} {v:Value} (h:Rd S M w v (dG (.l ([a,d].map O.g)))):∃ b o cap x6 y6,v=.slice (some ⟨b,o,none⟩) 2 cap∧2≤cap∧Rd S s9 w x6 (dG (.l (a.ps.map O.g)))∧Rd S s9 w y6 (dG (.l (d.ps.map O.g))) ∧
  (∀ i u,(ob7 a x6)[i]?=some u→S b (o+i)∧w.cell? ⟨b,o+i,none⟩=some u)∧(∀ i u,(ob7 d y6)[i]?=some u→S b (o+7+i)∧w.cell? ⟨b,o+7+i,none⟩=some u):=by
 have e:dG (.l ([a,d].map O.g))=.slice 2 (a.g.map dG ++ d.g.map dG) .no:=by simp only [dG,List.map_cons,List.map_nil,c01,List.length_cons,List.length_nil];simp [dRs]
 rw [e] at h
 generalize hds:a.g.map dG ++ d.g.map dG=ds at h
 cases h with
 | slice base len cap vs _ _ sl r _ l z =>
 subst hds
 have la:(a.g.map dG).length=7:=by rw [List.length_map,O.g_len]
 have r1:=r.take 7
 have r2:=r.drop 7
 rw [List.take_left' la] at r1
 rw [List.drop_left' la] at r2
 obtain ⟨x6,ex,hx⟩:=b29 r1
 obtain ⟨y6,ey,hy⟩:=b29 r2
 have ev:vs=(ob7 a x6).toList ++ (ob7 d y6).toList:=by rw [← ex,← ey,List.take_append_drop]
 rcases sl with sl | ⟨b,o,rfl,sl⟩
 ·rw [ev] at sl;cases sl
 refine ⟨b,o,cap,x6,y6,rfl,l,hx,hy,fun i u hu=>?_,fun i u hu=>?_⟩
 ·refine sl i u ?_
  rw [ev,List.getElem?_append_left]
  ·rw [Array.getElem?_toList];exact hu
  ·have:=(Array.getElem?_eq_some_iff.1 hu).1;simpa using this
 ·have:=sl (7+i) u (by
   have e7:7+i - (ob7 a x6).toList.length=i:=by show 7+i - 7=i;omega
   rw [ev,List.getElem?_append_right (by show 7≤7+i;omega),e7,Array.getElem?_toList];exact hu)
  rw [show o+(7+i)=o+7+i by omega] at this
  exact this
theorem d5t {w':World} {v:Value} {d:D} (hwi:S.within w) (h:Rd S M w v d) (k:Below w.heap.size w w'):Rd S M w' v d :=
 h.ext ⟨fun _ _ h=>h,fun b o h=>by unfold World.cell?;rw [k.block b (hwi b o h)],fun _ _ h=>h⟩
end
theorem a7x {g:FuncId} {sp:Sp} (hk:j4 g sp) (i:sp.ι) {r:GV} (hR:sp.R i=.ret r) (hB:sp.B i=[]) {vs:List V} (hv:j6 (sp.A i) vs) {w:World} {S:k8} {us:List Value} (hg:GG.pred w) (hwi:S.within w) (hr:p9 S s9 w us ((sp.A i).map dV)) :
  Calls Tryz.prog g us.toArray w fun e w'=>∃ v S',e=.returned v∧Below w.heap.size w w'∧S.grown S' w∧S'.within w'∧Rd S' s9 w' v (dV r):=by
 obtain ⟨v,bs',h1,h2,h3⟩:=hk i vs [] hv (by rw [hB];exact .nil)
 have h1:=h1 rfl
 rw [hR] at h2
 cases h2 with
 | ret _ v h2 =>
 rw [hv.map_toD] at h1
 have h1:CM Tryz.prog GG g ((sp.A i).map dV) [] (.ret (toD v)) (bs'.map E0):=h1
 rw [h2.toD] at h1
 refine (h1.2 w S s9 us hg (fun _ _ _ h=>by cases h) hwi ⟨fun id b h=>by simp at h,fun _ _=>rfl,fun _ _ _ _ _ _ _ h=>by simp at h⟩ hr).mono ?_
 rintro e w' ⟨hk,S',hgr,hw',he⟩
 obtain ⟨_,v',rfl,hv',_⟩:=he
 exact ⟨v',S',rfl,⟨hk.os,hk.tape,hk.output,hk.size,fun k hlt=>hk.block k hlt (fun i c h=>by cases h)⟩,hgr,hw',hv'⟩
theorem d5n {w:World} {b:Nat} {cs:Array Value} (hb:w.heap[b]?=some (.cells cs 26 (0,0))) (hs:cs.size=7) (c0 c1 c2 c3 c4 c5 c6:Value):(d5m w b c0 c1 c2 c3 c4 c5 c6).heap[b]?=some (.cells #[c0,c1,c2,c3,c4,c5,c6] 26 (0,0)):=by
 obtain ⟨cs⟩:=cs
 match cs,hs with
 | [d0,d1,d2,d3,d4,d5,d6],_=>exact T5 (T5 (T5 (T5 (T5 (T5 (T5 hb))))))
end
end Go.Proofs.YtgipbdffgfbedaaGreatDoor
namespace Go.Proofs.YtgipbdffgfbedaaGreatDoor
open Go.Abs LQ
theorem b2r {s:f6}:∀ (m i:Nat),s.length - i≤m→∀ j,i≤j→j < l7 s i→s7 (bt s j)=true:=by
 intro m
 induction m with
 | zero =>
  intro i hm j h1 h2
  rw [l7,if_neg oM] at h2
  omega
 | succ m ih =>
  intro i hm j h1 h2
  rw [l7] at h2
  split at h2
  ·split at h2
   ·by_cases hj:j=i
    ·subst hj;assumption
    ·exact ih (i+1) oM j oM h2
   ·omega
  ·omega
theorem a8w {w:f6}:L3 w=true↔(w ≠ []∧a7s w):=by
 unfold L3 a7s
 rw [Bool.and_eq_true,decide_eq_true_iff,List.all_eq_true]
 refine and_congr_right fun _=>⟨fun h j hj=>?_,fun h b hb=>?_⟩
 ·have:=h w[j] (List.getElem_mem hj)
  unfold bt
  rw [List.getD_eq_getElem?_getD,List.getElem?_eq_getElem hj]
  exact this
 ·obtain ⟨j,hj,rfl⟩:=List.getElem_of_mem hb
  have:=h j hj
  unfold bt at this
  rw [List.getD_eq_getElem?_getD,List.getElem?_eq_getElem hj] at this
  exact this
theorem c3x {s:f6} {t e:A8} (hs:s.length≤6000) (h:E6 s=.ok [t,e]):∃ j k,j < s.length∧LQ.skip s 0=some j∧A4 s j=.ok (t,k):=by
 unfold E6 at h
 rw [if_neg oM,a7m (Nat.zero_le _)] at h
 split at h
 ·cases h
 ·rename_i j hj
  split at h
  ·rename_i hlt
   split at h
   ·cases h
   ·rename_i t' k ht
    have hk:=a5v hlt ht
    obtain ⟨T',e1,_⟩:=a8z (s.length - k) (Nat.le_refl _) hk.2 h
    simp only [List.nil_append,List.cons_append,List.cons.injEq] at e1
    rw [← e1.1] at ht
    exact ⟨j,k,hlt,hj,ht⟩
  ·injection h with h
   simp at h
theorem b8p {s p:f6} {i k k':Nat} {t:A8} (hk:k+2≤s.length) (h:I7 s i p k=.ok (t,k')):t.text.length+k+2≤s.length∧(t.text.length+k+2=s.length→l7 s (k+2)=s.length∧k+2 < s.length):=by
 unfold I7 at h
 split at h
 ·split at h
  ·split at h
   ·cases h
   ·rename_i l j he
    have h1:=a4r he
    have h2:=a6y he
    have h3:=a0e l
    split at h
    ·injection h with h;injection h with h _
     rw [← h]
     simp at h1
     exact ⟨by show (E2 l).length+k+2≤_;omega,fun e=>by exfalso;have e:(E2 l).length+k+2=s.length:=e;omega⟩
    ·cases h
  ·split at h
   ·simp only [] at h
    split at h
    ·injection h with h;injection h with h _
     rw [← h]
     have hw:=G3 s (k+2) hk
     have hl:((s.take (l7 s (k+2))).drop (k+2)).length=l7 s (k+2) - (k+2):=by simp;omega
     exact ⟨by show ((s.take (l7 s (k+2))).drop (k+2)).length+k+2≤_;omega,fun e=>⟨by have e:((s.take (l7 s (k+2))).drop (k+2)).length+k+2=s.length:=e;omega,aS⟩⟩
    ·cases h
   ·cases h
 ·cases h
theorem d3k {i k k':Nat} {w:f6} {t:A8} (h:G4 i w k=.ok (t,k')) (h6:t.kind=6):t.text=w∧w ≠ [46]∧(n6 w).2.2=false:=by
 unfold G4 at h
 split at h
 ·injection h with h;injection h with h _;rw [← h] at h6;exact absurd h6 (by show ¬(3:Int)=6;decide)
 ·split at h
  ·split at h
   ·cases h
   ·simp only [] at h
    split at h
    ·cases h
    ·injection h with h;injection h with h _;rw [← h] at h6;exact absurd h6 (by show ¬(5:Int)=6;decide)
  ·split at h
   ·injection h with h;injection h with h _
    rw [← h]
    exact ⟨rfl,aS,by simpa using ‹¬(n6 w).2.2=true›⟩
   ·cases h
theorem d4z {s:f6} {j k:Nat} {t:A8} (hj:j < s.length) (h:A4 s j=.ok (t,k)) (h6:t.kind=6) (ht:t.text=s):L3 s=true∧s ≠ [46]∧(n6 s).2.2=false:=by
 have hl:t.text.length=s.length:=by rw [ht]
 unfold A4 at h
 split at h
 ·injection h with h;injection h with h _;rw [← h] at h6;exact absurd h6 (by show ¬(1:Int)=6;decide)
 split at h
 ·injection h with h;injection h with h _;rw [← h] at h6;exact absurd h6 (by show ¬(2:Int)=6;decide)
 split at h
 ·injection h with h;injection h with h _;rw [← h] at h6;exact absurd h6 (by show ¬(4:Int)=6;decide)
 split at h
 ·split at h
  ·cases h
  ·split at h
   ·cases h
   ·injection h with h;injection h with h _;rw [← h] at h6;exact absurd h6 (by show ¬(7:Int)=6;decide)
 split at h
 ·split at h
  ·cases h
  ·rename_i l j' he
   have h1:=a4r he
   have h2:=a6y he
   have h3:=a0e l
   split at h
   ·injection h with h;injection h with h _
    rw [← h] at hl
    have hl:(E2 l).length=s.length:=hl
    simp at h1
    omega
   ·cases h
 split at h
 ·have hw:=G3 s j oM
  split at h
  ·rename_i hh
   have h2:=V8 hh
   have:=(b8p oM h).1
   omega
  ·obtain ⟨e1,e2,e3⟩:=d3k h h6
   rw [e1] at hl
   have hl2:((s.take (l7 s j)).drop j).length=l7 s j - j:=by simp;omega
   have hj0:j=0:=oM
   subst hj0
   have hwl:l7 s 0=s.length:=oM
   rw [hwl,List.drop_zero,List.take_length] at e2 e3
   refine ⟨a8w.2 ⟨fun e=>by rw [e] at hj;simp at hj,fun i hi=>b2r _ 0 (Nat.le_refl _) i (Nat.zero_le _) oM⟩,e2,e3⟩
 ·cases h
theorem d40 {w:f6} {j k:Nat} {t:A8} (hj:LQ.skip (97 :: 58 :: 58 :: w) 0=some j) (h:A4 (97 :: 58 :: 58 :: w) j=.ok (t,k)) (h0:w ≠ []) (ht:t.text=w):L3 w=true:=by
 have hl:0 < w.length:=List.length_pos_iff.2 h0
 have e0:j=0:=by
  have:=b0u (s:=97 :: 58 :: 58 :: w) (k:=0) (by simp) (by rw [bt0];decide) (by rw [bt0];decide) (c76 (by rw [bt0];decide))
  rw [this] at hj
  injection hj with hj
  exact hj.symm
 subst e0
 have ew:l7 (97 :: 58 :: 58 :: w) 0=1:=by
  rw [l7,if_pos (by simp),if_pos (by rw [bt0];decide),l7,if_pos (by simp),if_neg (by rw [bt1];decide)]
 unfold A4 at h
 rw [bt0,if_neg dE,if_neg dE,if_neg dE,if_neg dE,if_neg dE,if_pos dE] at h
 simp only [ew] at h
 have hh:has (97 :: 58 :: 58 :: w) 1 58 58=true:=by unfold has;exact decide_eq_true ⟨by simp,by rfl,by rfl⟩
 rw [if_pos hh] at h
 have h1:=b8p (k:=1) (by simp) h
 have h2:=(h1.2 (by rw [ht];simp)).1
 refine a8w.2 ⟨h0,fun i hi=>?_⟩
 have:=b2r _ 3 (Nat.le_refl _) (i+3) oM (by rw [h2];simp;omega)
 have e:bt (97 :: 58 :: 58 :: w) (i+3)=bt w i:=rfl
 rw [e] at this
 exact this
def a12 (q:Bool):f6:=if q then [97,58,58] else []
theorem d6n (q:Bool) {w:f6} (h1:1≤w.length) (h2:w.length≤40):(∃ t e,E6 (a12 q ++ w)=.ok [t,e]∧t.kind=6∧t.text=w)↔¬(L3 w=false∨(q=false∧(w=[46]∨(n6 w).2.2=true))):=by
 have h0:w ≠ []:=fun e=>by rw [e] at h1;simp at h1
 cases q with
 | false =>
  show (∃ t e,E6 w=_∧_)↔_
  constructor
  ·rintro ⟨t,e,ht,h6,hx⟩
   obtain ⟨j,k,hj,hs,ho⟩:=c3x oM ht
   obtain ⟨a,b,c⟩:=d4z hj ho h6 hx
   rintro (h | ⟨_,h | h⟩)
   ·rw [a] at h;cases h
   ·exact b h
   ·rw [c] at h;cases h
  ·intro h
   have hw:D2 w false=w:=by unfold D2;rw [if_neg h]
   have hx:=d4q (w:=w) oM h2
   rw [hw] at hx
   obtain ⟨T,e1,e2⟩:=b9c hx oM
   have hT:T.length=1:=by have:=congrArg List.length e1;simpa using this
   obtain ⟨t,rfl⟩:=List.length_eq_one_iff.1 hT
   simp only [List.map_cons,List.map_nil,List.cons.injEq,and_true] at e1
   exact ⟨t,_,e2,congrArg NT.kind e1,congrArg NT.text e1⟩
 | true =>
  show (∃ t e,E6 (97 :: 58 :: 58 :: w)=_∧_)↔_
  constructor
  ·rintro ⟨t,e,ht,h6,hx⟩
   obtain ⟨j,k,hj,hs,ho⟩:=c3x (by simp;omega) ht
   have a:=d40 hs ho h0 hx
   rintro (h | ⟨h,_⟩)
   ·rw [a] at h;cases h
   ·cases h
  ·intro h
   have hw:D2 w true=w:=by unfold D2;rw [if_neg h]
   have hx:=d4r (p:=[97]) (w:=w) kR oM h2
   rw [hw] at hx
   obtain ⟨T,e1,e2⟩:=b9c hx (by simp;omega)
   have hT:T.length=1:=by have:=congrArg List.length e1;simpa using this
   obtain ⟨t,rfl⟩:=List.length_eq_one_iff.1 hT
   simp only [List.map_cons,List.map_nil,List.cons.injEq,and_true] at e1
   exact ⟨t,_,e2,congrArg NT.kind e1,congrArg NT.text e1⟩
end Go.Proofs.YtgipbdffgfbedaaGreatDoor
namespace Go.Proofs.YtgipbdffgfbedaaGreatDoor
open Go.Abs LQ
set_option maxRecDepth 100000
set_option maxHeartbeats 4000000
noncomputable section
theorem R7 {U:q7} {P:J0→List Bx→Prop} {x y:List UInt8} {l c1 c2:Nat} {K:Nat→Om} (h1:l=x.length) (e1:c1=j9 x) (e2:c2=j9 y) (k:g8 U (K (j9 (x ++ y))) P):g8 U (U.fN (U.sCat l c1 c2) K) P:=fun e=>by
 subst h1 e1 e2
 have:=k e
 subst e
 rw [a5x]
 show ∃ v bs,K (sCat x.length (j9 x) (j9 y))=some (v,bs)∧P v bs
 rw [b8y];exact this
set_option maxHeartbeats 8000000
def c9o:Sp where
 ι:={ p:f6 × UInt8 // p.1.length < 21600000∧(p.2=34∨p.2=124) }
 A p:=[.c (.s p.1.1),.c (.i .i32 (p.1.2.toNat:Int))]
 B _:=[]
 R p:=.ret (.c (.s (D3 p.1.2 p.1.1)))
 B' _:=[]
 inj i j vs bs h k _ _:=by
  obtain ⟨_,_,h1,k1,h,k⟩:=h.two k
  obtain ⟨_,_,h2,k2,h,k⟩:=h.two k
  have e2:=Z7 h2 k2
  rw [F5 h1 k1,UInt8.toNat_inj.1 (show i.1.2.toNat=j.1.2.toNat by omega)];exact ⟨rfl,rfl⟩
theorem d5k {a b:Bool} (h:a12 a=a12 b):a=b:=by cases a <;> cases b <;> first | rfl | cases h
theorem d5l:3816033=j9 (a12 true):=dE
def e9k:Sp where
 ι:={ p:Bool × f6 // 1≤p.2.length∧p.2.length≤40 }
 A p:=[.c (.s (a12 p.1.1)),.c (.s p.1.2)]
 B _:=[]
 R p:=.ret (.c (.s (D2 p.1.2 p.1.1)))
 B' _:=[]
 inj i j vs bs h k _ _:=by
  obtain ⟨_,_,h1,k1,h,k⟩:=h.two k
  obtain ⟨_,_,h2,k2,h,k⟩:=h.two k
  rw [d5k (F5 h1 k1),F5 h2 k2];exact ⟨rfl,rfl⟩
theorem e2y (hq:j4 28 c9o):j4 53 e9k:=l9 (fun fn h=>e5f h) [(28,_),(75,_)] (.cons hq (.cons d4o .nil)) fun U fn hfn ⟨(q,w),h1,h2⟩ vs bs hv hb=>by
 have hqu:=hfn 28 _ rfl
 have htk:=hfn 75 _ rfl
 have h1:1≤w.length:=h1
 have h2:w.length≤40:=h2
 have hv:j6 [.c (.s (a12 q)),.c (.s w)] vs:=hv
 have hb:RBs [] bs:=hb
 show g8 U _ fun v bs'=>j7 (.ret (.c (.s (D2 w q)))) v∧RBs [] bs'
 unfold r53
 have hw:=d6n q h1 h2
 have hpl:(a12 q).length≤3:=by cases q <;> decide
 (refine Zy ?_;intros)
 refine R7 (x:=a12 q) (y:=w) rfl rfl rfl ?_
 have hsl:(a12 q ++ w).length < 1920000:=by simp;omega
 have fin:∀ (z:Bool),(z=true↔∃ t e,E6 (a12 q ++ w)=.ok [t,e]∧t.kind=6∧t.text=w)→D2 w q=if z=true then w else D3 124 w:=fun z hz=>by
  unfold D2
  by_cases hz1:z=true
  ·rw [if_neg (hw.1 (hz.1 hz1)),if_pos hz1]
  ·rw [if_pos (Decidable.byContradiction fun h=>hz1 (hz.2 (hw.2 h))),if_neg hz1]
 have key:∃ (T:List A8) (e p:Int),c9w (E6 (a12 q ++ w))=.ret (.t [.sl 5 (T.map R8),.a [.i .i64 e,.i .i64 p]])∧(∀ z:Bool,(z=true↔(e=0∧∃ t x,T=[t,x]∧t.kind=6∧t.text=w))→D2 w q=if z=true then w else D3 124 w)∧(e=0→T.length < 21600000):=by
  cases hx:E6 (a12 q ++ w) with
  | ok T =>
   refine ⟨T,0,0,rfl,fun z hz=>fin z (hz.trans ?_),fun _=>?_⟩
   ·rw [hx]
    constructor
    ·rintro ⟨_,t,x,rfl,h⟩;exact ⟨t,x,rfl,h⟩
    ·rintro ⟨t,x,h,h6⟩;injection h with h;exact ⟨rfl,t,x,h,h6⟩
   ·unfold E6 at hx
    rw [if_neg (by simp;omega)] at hx
    obtain ⟨T',e,_,_,hl⟩:=a8z _ (Nat.le_refl _) (Nat.zero_le _) hx
    subst e
    simp at hl ⊢
    omega
  | error ep =>
   refine ⟨[],ep.1,ep.2,rfl,fun z hz=>fin z (hz.trans ?_),fun _=>by decide⟩
   rw [hx]
   constructor
   ·rintro ⟨_,t,x,h,_⟩;cases h
   ·rintro ⟨t,x,h,_⟩;cases h
 obtain ⟨T,e,p,hT,hfin,hTl⟩:=key
 refine f9 htk ⟨a12 q ++ w,hsl⟩ (r:=.t [.sl 5 (T.map R8),.a [.i .i64 e,.i .i64 p]]) hT (.k (.s _ _ _ (by simp) rfl) .nil) .nil fun _ _ hv2 _=>?_
 (refine Zy ?_;intros)
 refine Q4 (fun vs bs=>∃ (z:Bool) (v:V),vs=[.str w.length (j9 w),v]∧bs=[]∧RV (.c (.b z)) v∧(z=true↔(e=0∧∃ t x,T=[t,x]∧t.kind=6∧t.text=w))) ?_ ?_
 ·rintro _ _ ⟨z,v,rfl,rfl,hvz,hz⟩
  rw [hfin z hz]
  (refine Zy ?_;with_reducible repeat' first|intro _|apply aI)
  ·rw [if_pos ‹z=true›]
   exact i7 ⟨.ret _ _ (.s _ _ _ rfl rfl),.nil⟩
  ·rw [if_neg ‹¬z=true›]
   refine f9 hqu ⟨(w,124),by show w.length < 21600000;omega,.inr rfl⟩ (r:=.c (.s (D3 124 w))) rfl (.k (.s _ _ _ rfl rfl) (.k (.i _ _) .nil)) .nil fun _ _ _ _=>?_
   (refine Zy ?_;intros)
   exact i7 ⟨.ret _ _ (.s _ _ _ rfl rfl),.nil⟩
 ·intro c hc
  (refine Zy ?_;with_reducible repeat' first|intro _|apply aI)
  ·have hl2:T.length=2:=oM
   obtain ⟨t,x,rfl⟩:∃ t x,T=[t,x]:=by
    match T,hl2 with
    | [t,x],_=>exact ⟨t,x,rfl⟩
   have h6:t.kind=6:=‹_›
   exact fun e9=>hc _ _ ⟨decide (t.text=w),_,rfl,rfl,M5 (by subst e9;exact (cuS _ _).symm),by
    rw [decide_eq_true_iff]
    exact ⟨fun h=>⟨aS,t,x,rfl,h6,h⟩,fun ⟨_,t',x',h,_,h2⟩=>by injection h with h _;rw [h];exact h2⟩⟩ e9
  ·have h6:¬(T[0]'oM).kind=6:=‹_›
   exact hc _ _ ⟨false,_,rfl,rfl,.kn _,⟨(fun h=>by cases h),fun ⟨_,t',x',h,h2,_⟩=>by subst h;exact absurd h2 h6⟩⟩
  ·have h6:¬((T.length:Nat):Int)=2:=‹_›
   exact hc _ _ ⟨false,_,rfl,rfl,.kn _,⟨(fun h=>by cases h),fun ⟨_,t',x',h,h2,_⟩=>by subst h;exact absurd rfl h6⟩⟩
  ·exact hc _ _ ⟨false,_,rfl,rfl,.kn _,⟨(fun h=>by cases h),fun ⟨h,_⟩=>absurd h ‹¬e=0›⟩⟩
def a8h (r:f6 × Int):GV:=.t [.c (.s r.1),.c (.i .i64 r.2)]
def c9m:Sp where
 ι:={ p:List Pk × f6 × Sy // H8 p.1∧p.2.2.1.length < 21600000∧p.2.2.2.length < 21600000 }
 A p:=[.sl 2 (p.1.1.map pg),.c (.s p.1.2.1),.a (sg p.1.2.2)]
 B _:=[]
 R p:=.ret (a8h (H3 p.1.1 p.1.2.1 p.1.2.2))
 B' _:=[]
 inj i j vs bs h k _ _:=by
  obtain ⟨_,_,h1,k1,h,k⟩:=h.two k
  obtain ⟨_,_,h2,k2,h,k⟩:=h.two k
  obtain ⟨_,_,h3,k3,h,k⟩:=h.two k
  rw [X3 (h1.sl_inj k1),F5 h2 k2,a7k (h3.a_inj k3)];exact ⟨rfl,rfl⟩
theorem a5h {L:List Pk} {c:f6} (h:C6 L c=none):D4 L c=.t [.a [.s [],.l []],.c (.b false)]:=by unfold D4;rw [h]
theorem a5i {L:List Pk} {c:f6} {p:Pk} (h:C6 L c=some p):D4 L c=.t [.a (pg p),.c (.b true)]:=by unfold D4;rw [h]
theorem e2l (hq:j4 28 c9o):j4 29 c9m:=l9 (fun fn h=>e4u h) [(51,_),(26,_),(49,_),(52,_),(53,_)] (.cons (c6f kIS) (.cons c1v (.cons d05 (.cons d68 (.cons (e2y hq) .nil))))) fun U fn hfn ⟨(L,cur,s),hL,hs1,hs2⟩ vs bs hv hb=>by
 have hva:=hfn 51 _ rfl
 have hfi:=hfn 26 _ rfl
 have hho:=hfn 49 _ rfl
 have hvi:=hfn 52 _ rfl
 have hwo:=hfn 53 _ rfl
 have hL:H8 L:=hL
 have hs1:s.1.length < 21600000:=hs1
 have hs2:s.2.length < 21600000:=hs2
 have hv:j6 [.sl 2 (L.map pg),.c (.s cur),.a [.s s.1,.s s.2]] vs:=hv
 have hb:RBs [] bs:=hb
 show g8 U _ fun v bs'=>j7 (.ret (a8h (H3 L cur s))) v∧RBs [] bs'
 unfold r29
 (refine Zy ?_;intros)
 refine f9 hva ⟨s,hs1,hs2⟩ (r:=.c (.b (named s))) rfl (.k (.a _ _ _ rfl aS) .nil) .nil fun _ _ _ _=>?_
 (refine Zy ?_;with_reducible repeat' first|intro _|apply aI)
 ·have hn:named s=true:=‹_›
  obtain ⟨nv,nl,n0⟩:=a0d hn
  have nnf:¬named s=false:=by rw [hn];simp
  have bad:(C6 L cur=none∨G7 L s=false)→g8 U (some (.ret (.tuple [.str 0 0,.int .i64 13]),[])) fun v bs'=>j7 (.ret (a8h (H3 L cur s))) v∧RBs [] bs':=fun h=>by
   unfold H3
   rw [if_neg nnf,if_pos h]
   exact i7 ⟨.ret _ _ j3,.nil⟩
  cases hf:C6 L cur with
  | none =>
   refine f9 hfi ⟨(L,cur),hL⟩ (r:=.t [.a [.s [],.l []],.c (.b false)]) (by show o8.ret (D4 L cur)=_;rw [a5h hf]) (.k (.sl _ _ _ _ _ (by simp) aS) j3) .nil fun _ _ _ _=>?_
   (refine Zq ?_;intros)
   exact bad (.inl hf)
  | some p =>
   refine f9 hfi ⟨(L,cur),hL⟩ (r:=.t [.a (pg p),.c (.b true)]) (by show o8.ret (D4 L cur)=_;rw [a5i hf]) (.k (.sl _ _ _ _ _ (by simp) aS) j3) .nil fun _ _ hv9 _=>?_
   have hv9:RV (.t [.a [.s p.1,.l (p.2.map sg)],.c (.b true)]) _:=hv9
   (refine Zq ?_;intros)
   have n1:¬(C6 L cur=none∨G7 L s=false)↔G7 L s=true:=by rw [hf];simp
   refine f9 hho ⟨(L,s),hL⟩ (r:=.c (.b (G7 L s))) rfl (.k (.sl _ _ _ _ _ (by simp) aS) (.k (.a _ _ _ rfl aS) .nil)) .nil fun _ _ _ _=>?_
   (refine Zq ?_;with_reducible repeat' first|intro _|apply aI)
   ·have hh:G7 L s=true:=‹_›
    unfold H3
    rw [if_neg nnf,if_neg (n1.2 hh)]
    refine f9 hvi ⟨(L,cur,s),hL⟩ (r:=.c (.b (a1n L cur s))) rfl (.k (.sl _ _ _ _ _ (by simp) aS) (.k (.s _ _ _ rfl rfl) (.k (.a _ _ _ rfl aS) .nil))) .nil fun _ _ _ _=>?_
    (refine Zq ?_;with_reducible repeat' first|intro _|apply aI)
    ·rw [if_pos ‹a1n L cur s=true›]
     refine f9 hwo ⟨(false,s.2),n0,nl⟩ (r:=.c (.s (D2 s.2 false))) rfl (.k (.s _ _ _ rfl rfl) (.k (.q _ _ aS) .nil)) .nil fun _ _ _ _=>?_
     (refine Zq ?_;intros)
     exact i7 ⟨.ret _ _ j3,.nil⟩
    ·rw [if_neg ‹¬a1n L cur s=true›]
     refine R7 (x:=s.1) (y:=[58,58]) rfl rfl rfl ?_
     have hw:=a84 s.2 true
     (refine Zq ?_;intros)
     refine f9 hwo ⟨(true,s.2),n0,nl⟩ (r:=.c (.s (D2 s.2 true))) rfl (.k (.s _ _ _ rfl d5l) (.k (.q _ _ aS) .nil)) .nil fun _ _ _ _=>?_
     (refine Zq ?_;intros)
     refine R7 (x:=s.1 ++ [58,58]) (y:=D2 s.2 true) (by simp) rfl rfl ?_
     rw [show s.1 ++ [58,58] ++ D2 s.2 true=s.1 ++ 58 :: 58 :: D2 s.2 true by simp]
     exact i7 ⟨.ret _ _ (.t _ _ (.k (.s _ _ _ (by simp;omega) rfl) (.k (.i _ _) .nil))),.nil⟩
   ·exact bad (.inr (by simpa using ‹¬G7 L s=true›))
 ·have hn:named s=false:=by simpa using ‹¬named s=true›
  unfold H3
  rw [if_pos hn]
  exact i7 ⟨.ret _ _ j3,.nil⟩
def c9l (ok:O→Prop) (g:List Pk→O→GV):Sp where
 ι:={ p:List Pk × O // H8 p.1∧ok p.2 }
 A p:=[.sl 2 (p.1.1.map pg),.a p.1.2.g]
 B _:=[]
 R p:=.ret (g p.1.1 p.1.2)
 B' _:=[]
 inj i j vs bs h k _ _:=by
  obtain ⟨_,_,h1,k1,h,k⟩:=h.two k
  obtain ⟨_,_,h2,k2,h,k⟩:=h.two k
  rw [X3 (h1.sl_inj k1),O.g_inj (h2.a_inj k2)];exact ⟨rfl,rfl⟩
def okZ (o:O):Prop:=o.size < 21600000
def hmG (L:List Pk) (o:O):GV:=.c (.b (v8 L o))
theorem e2q:j4 27 (c9l okZ hmG):=Q1 (fun p=>p.1.2.size) fun n ih=>l9 (fun fn h=>e4t h) [(27,(c9l okZ hmG).lt _ n),(49,_)] (.cons ih (.cons d05 .nil)) fun U fn hfn ⟨⟨(L,o),hL,hz⟩,hn⟩ vs bs hv hb=>by
 have hr:=hfn 27 _ rfl
 have hh:=hfn 49 _ rfl
 have hL:H8 L:=hL
 have hz:o.size < 21600000:=hz
 have hn:o.size < n+1:=hn
 have hv:j6 [.sl 2 (L.map pg),.a o.g] vs:=hv
 have hb:RBs [] bs:=hb
 show g8 U _ fun v bs'=>j7 (.ret (.c (.b (v8 L o)))) v∧RBs [] bs'
 unfold r27
 (refine Zy ?_;intros)
 refine S7 aS o.g_len fun q0 hq0=>?_
 (refine Zy ?_;intros)
 refine F3 (fun (x:O) vs bs=>∃ (t:j0 Q) (k m:Nat) (q:Q),vs=[.slice t 2 k m .no,.ptr 0 0]∧bs=[.opa q 7]∧m=L.length∧n7 2 (L.map pg) t k∧u3 x.g q 0∧v8 L o=v8 L x∧x.size≤o.size) (fun x=>x.size) o ⟨_,_,_,_,rfl,rfl,by simp,aS,aS,rfl,Nat.le_refl _⟩ (by simp only [y8];omega) ?_
 rintro self x _ _ ⟨t,k,m,q,rfl,rfl,rfl,ht,hq,he,hsz⟩ ih
 cases hco:x.isCo with
 | true =>
  cases x with
  | co a d =>
   have hs:(O.co a d).size=1+a.size+d.size:=rfl
   rw [hs] at hsz
   have hq:u3 [.i .i64 4,.s [],.s [],.s [],.s [],.s [],.l ([a,d].map O.g)] q 0:=hq
   have hl2:([a,d]:List O).length=2:=rfl
   have hpd:=d.size_pos
   have e1:v8 L (.co a d)=(v8 L a && v8 L d):=rfl
   rw [e1] at he
   rw [he]
   (refine Zz ?_;intros)
   refine f9 hr ⟨⟨(L,a),hL,by show a.size < 21600000;omega⟩,by show a.size < n;omega⟩ (r:=.c (.b (v8 L a))) rfl (.k (.sl _ _ _ _ _ (by simp) aS) (.k (oV aS) .nil)) .nil fun _ _ _ _=>?_
   (refine Zq ?_;with_reducible repeat' first|intro _|apply aI)
   ·rw [‹v8 L a=true›,Bool.true_and]
    rw [‹v8 L a=true›,Bool.true_and] at he
    rw [← he]
    exact ih d _ _ ⟨_,_,_,_,rfl,rfl,rfl,aS,aS,he,oM⟩ (by rw [hs];omega)
   ·rw [show v8 L a=false by simpa using ‹¬v8 L a=true›,Bool.false_and]
    exact i7 ⟨.ret _ _ (.kn _),.nil⟩
  | _=>cases hco
 | false =>
  have hk:¬x.k=4:=fun e=>by cases x <;> first | (cases hco;done) | (simp [O.k] at e;done)
  rw [x.g_eq] at hq
  rw [he]
  (refine Zq ?_;with_reducible repeat' first|intro _|apply aI)
  ·exact absurd ‹x.k=4› hk
  ·have h2:=‹x.k=2›
   cases x with
   | sy s =>
    refine f9 hh ⟨(L,s),hL⟩ (r:=.c (.b (G7 L s))) rfl (.k (.sl _ _ _ _ _ (by simp) aS) (.k (c28 (gs:=List.drop 3 _) aS (by rfl) rfl) .nil)) .nil fun _ _ _ _=>?_
    (refine Zq ?_;intros)
    exact i7 ⟨.ret _ _ (.b _),.nil⟩
   | _=>simp [O.k] at h2
  ·have h2:=‹¬x.k=2›
   have:v8 L x=true:=by
    cases x with
    | sy s=>exact absurd rfl h2
    | co=>cases hco
    | _=>rfl
   rw [this]
   exact i7 ⟨.ret _ _ (.kn _),.nil⟩
def b3o (ok:O→Prop) (g:List Pk→f6→O→GV):Sp where
 ι:={ p:List Pk × f6 × O // H8 p.1∧ok p.2.2 }
 A p:=[.sl 2 (p.1.1.map pg),.c (.s p.1.2.1),.a p.1.2.2.g]
 B _:=[]
 R p:=.ret (g p.1.1 p.1.2.1 p.1.2.2)
 B' _:=[]
 inj i j vs bs h k _ _:=by
  obtain ⟨_,_,h1,k1,h,k⟩:=h.two k
  obtain ⟨_,_,h2,k2,h,k⟩:=h.two k
  obtain ⟨_,_,h3,k3,h,k⟩:=h.two k
  rw [X3 (h1.sl_inj k1),F5 h2 k2,O.g_inj (h3.a_inj k3)];exact ⟨rfl,rfl⟩
def ckG (L:List Pk) (cur:f6) (o:O):GV:=.c (.i .i64 (E4 L cur o).2)
theorem e2f:j4 15 (b3o okV ckG):=l9 (fun fn h=>d16 h) [(25,_),(26,_),(27,_)] (.cons d9e (.cons c1v (.cons e2q .nil))) fun U fn hfn ⟨(L,cur,o),hL,ho⟩ vs bs hv hb=>by
 have hva:=hfn 25 _ rfl
 have hfi:=hfn 26 _ rfl
 have hho:=hfn 27 _ rfl
 have hL:H8 L:=hL
 have ho:okV o:=ho
 have hv:j6 [.sl 2 (L.map pg),.c (.s cur),.a o.g] vs:=hv
 have hb:RBs [] bs:=hb
 show g8 U _ fun v bs'=>j7 (.ret (.c (.i .i64 (E4 L cur o).2))) v∧RBs [] bs'
 unfold r15
 (refine Zy ?_;intros)
 refine S7 aS o.g_len fun q0 hq0=>?_
 (refine Zy ?_;intros)
 refine f9 hva ⟨o,ho⟩ (r:=.c (.b true)) rfl (.k (oV aS) .nil) .nil fun _ _ _ _=>?_
 (refine Zz ?_;with_reducible repeat' first|intro _|apply aI)
 cases hf:C6 L cur with
 | none =>
  have e:(E4 L cur o).2=13:=by unfold E4;rw [if_pos (.inl hf)]
  rw [e]
  refine f9 hfi ⟨(L,cur),hL⟩ (r:=.t [.a [.s [],.l []],.c (.b false)]) (by show o8.ret (D4 L cur)=_;rw [a5h hf]) (.k (.sl _ _ _ _ _ (by simp) aS) j3) .nil fun _ _ _ _=>?_
  (refine Zq ?_;intros)
  exact i7 ⟨.ret _ _ (.i _ _),.nil⟩
 | some p =>
  refine f9 hfi ⟨(L,cur),hL⟩ (r:=.t [.a (pg p),.c (.b true)]) (by show o8.ret (D4 L cur)=_;rw [a5i hf]) (.k (.sl _ _ _ _ _ (by simp) aS) j3) .nil fun _ _ hv9 _=>?_
  have hv9:RV (.t [.a [.s p.1,.l (p.2.map sg)],.c (.b true)]) _:=hv9
  (refine Zq ?_;intros)
  refine f9 hho ⟨(L,o),hL,by show o.size < 21600000;have:=ho.size;omega⟩ (r:=.c (.b (v8 L o))) rfl (.k (.sl _ _ _ _ _ (by simp) aS) (.k (oV aS) .nil)) .nil fun _ _ _ _=>?_
  (refine Zq ?_;with_reducible repeat' first|intro _|apply aI)
  ·have e:(E4 L cur o).2=0:=by unfold E4;rw [if_neg (by rw [hf,‹v8 L o=true›];simp)]
   rw [e]
   exact i7 ⟨.ret _ _ (.i _ _),.nil⟩
  ·have e:(E4 L cur o).2=13:=by unfold E4;rw [if_pos (.inr (by simpa using ‹¬v8 L o=true›))]
   rw [e]
   exact i7 ⟨.ret _ _ (.i _ _),.nil⟩
def O2 (o:O):GV:=match J6 o with
 | some x=>.t [.a x.g,.c (.b true)]
 | none=>.t [.a O.no.g,.c (.b false)]
open Classical in
theorem b84 {o:O} {l:List O} (h:A9 o=some l) (hl:l.length=2):J6 o=if O.eqb (l[0]'oM) z8=true then some (l[1]'oM) else none:=by
 match l,hl with
 | [a,b],_ =>
  unfold J6
  rw [h]
  show (if a=z8 then some b else none)=if O.eqb a z8=true then some b else none
  by_cases e:a=z8
  ·rw [if_pos e,if_pos (O.eqb_t.2 e)]
  ·rw [if_neg e,if_neg fun h=>e (O.eqb_t.1 h)]
theorem b83 {o:O} {l:List O} (h:A9 o=some l) (hl:¬l.length=2):J6 o=none:=by
 unfold J6
 rw [h]
 match l,hl with
 | [],_=>rfl
 | [_],_=>rfl
 | _ :: _ :: _ :: _,_=>rfl
theorem c3f {o:O} (h:A9 o=none):J6 o=none:=by unfold J6;rw [h]
abbrev zV0:V:=.agg [.int .i64 0,.str 0 0,.str 0 0,.str 0 0,.str 0 0,.str 0 0,.slice .nil 0 0 0 .no]
theorem e6l:RV (.a O.no.g) zV0:=.ag _ _ (.k (.i _ _) (.k (.s _ _ _ rfl rfl) (.k (.s _ _ _ rfl rfl) (.k (.s _ _ _ rfl rfl) (.k (.s _ _ _ rfl rfl) (.k (.s _ _ _ rfl rfl) (.k (.cl _ _ _ _ _ rfl (.nil _ _ _)) .nil)))))))
theorem a0q {U:q7} {o:O} (h:J6 o=none):g8 U (some (.ret (.tuple [zV0,.known false]),[])) fun v bs'=>j7 (.ret (O2 o)) v∧RBs [] bs':=by
 unfold O2
 rw [h]
 exact i7 ⟨.ret _ _ (.t _ _ (.k e6l (.k (.kn _) .nil))),.nil⟩
theorem e2v:j4 30 (c3j O2):=l9 (fun fn h=>e4v h) [(54,_),(56,_),(55,_)] (.cons e2i (.cons c11 (.cons f4c .nil))) fun U fn hfn ⟨o,hz⟩ vs bs hv hb=>by
 have hit:=hfn 54 _ rfl
 have hsy:=hfn 56 _ rfl
 have heq:=hfn 55 _ rfl
 have hz:o.size < 21600000:=hz
 have hv:j6 [.a o.g] vs:=hv
 have hb:RBs [] bs:=hb
 show g8 U _ fun v bs'=>j7 (.ret (O2 o)) v∧RBs [] bs'
 unfold r30
 (refine Zy ?_;intros)
 refine S7 aS o.g_len fun q0 hq0=>?_
 (refine Zy ?_;with_reducible repeat' first|intro _|apply aI)
 cases hi:A9 o with
 | none =>
  refine f9 hit ⟨o,hz⟩ (r:=.t [.sl 7 [],.c (.b false)]) (by show o8.ret (L9 o)=_;unfold L9;rw [hi]) (.k (oV aS) .nil) .nil fun _ _ _ _=>?_
  (refine Zq ?_;intros)
  exact a0q (c3f hi)
 | some l =>
  refine f9 hit ⟨o,hz⟩ (r:=.t [.sl 7 (l.map O.g),.c (.b true)]) (by show o8.ret (L9 o)=_;unfold L9;rw [hi]) (.k (oV aS) .nil) .nil fun _ _ _ _=>?_
  (refine Zq ?_;with_reducible repeat' first|intro _|apply aI)
  ·have hl:l.length=2:=oM
   have h2:=b84 hi hl
   refine f9 hsy (x9,[113,117,111,116,101]) (r:=.a z8.g) rfl (.k (.ag _ _ j3) .nil) .nil fun _ _ _ _=>?_
   (refine Zq ?_;intros)
   refine f9 heq (l[0]'oM) (r:=.c (.b (O.eqb (l[0]'oM) z8))) rfl (.k (oV aS) (.k (oV aS) .nil)) .nil fun _ _ _ _=>?_
   (refine Zq ?_;with_reducible repeat' first|intro _|apply aI)
   ·rw [if_pos ‹O.eqb _ z8=true›] at h2
    unfold O2
    rw [h2]
    exact i7 ⟨.ret _ _ (.t _ _ (.k (oV aS) (.k (.kn _) .nil))),.nil⟩
   ·rw [if_neg ‹¬O.eqb _ z8=true›] at h2
    exact a0q h2
  ·exact a0q (b83 hi oM)
end
end Go.Proofs.YtgipbdffgfbedaaGreatDoor
