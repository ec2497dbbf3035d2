/- Parts: Lq Vy. -/
import Derived.Test.YtfcemodgopdkkaaGreatDoorQ11
import Derived.Test.YtfcemodgopdkkaaGreatDoorProg
import Derived.Shelf.Spec.DecodeRune
set_option maxRecDepth 100000
namespace Go.Proofs.YtfcemodgopdkkaaGreatDoor
section
open Go.RowKit
def deR:Go.Shelf.Ren:=⟨fun|32=>219|49=>244|n=>n,fun|0=>0|3=>3|4=>4|5=>5|21=>21|25=>256|30=>46|33=>281|66=>68|68=>337|69=>338|n=>n,fun|2=>4|3=>5|n=>n⟩
theorem zLX:Lays7.n32 Tryz.prog deR:= {
 mixed:=by kernel_rfl
 f32:=Tryz.func219.trans (congrArg some (by kernel_rfl))
 f49:=Tryz.func244.trans (congrArg some (by kernel_rfl))
 t0:=by kernel_rfl
 a0:=fun _=>by kernel_rfl
 z0:=fun _=>by kernel_rfl
 v0:=fun _=>by kernel_rfl
 i0:=by kernel_rfl
 t3:=by kernel_rfl
 a3:=fun _=>by kernel_rfl
 z3:=fun _=>by kernel_rfl
 v3:=fun _=>by kernel_rfl
 i3:=by kernel_rfl
 t4:=by kernel_rfl
 a4:=fun _=>by kernel_rfl
 z4:=fun _=>by kernel_rfl
 v4:=fun _=>by kernel_rfl
 i4:=by kernel_rfl
 t5:=by kernel_rfl
 a5:=fun _=>by kernel_rfl
 z5:=fun _=>by kernel_rfl
 v5:=fun _=>by kernel_rfl
 i5:=by kernel_rfl
 t21:=by kernel_rfl
 a21:=fun _=>by kernel_rfl
 z21:=fun _=>by kernel_rfl
 v21:=fun _=>by kernel_rfl
 i21:=by kernel_rfl
 t25:=by kernel_rfl
 a25:=fun _=>by kernel_rfl
 z25:=fun _=>by kernel_rfl
 v25:=fun _=>by kernel_rfl
 i25:=by kernel_rfl
 t30:=by kernel_rfl
 a30:=fun _=>by kernel_rfl
 z30:=fun _=>by kernel_rfl
 v30:=fun _=>by kernel_rfl
 i30:=by kernel_rfl
 t33:=by kernel_rfl
 a33:=fun _=>by kernel_rfl
 z33:=fun _=>by kernel_rfl
 v33:=fun _=>by kernel_rfl
 i33:=by kernel_rfl
 t66:=by kernel_rfl
 a66:=fun _=>by kernel_rfl
 z66:=fun _=>by kernel_rfl
 t68:=by kernel_rfl
 a68:=fun _=>by kernel_rfl
 z68:=fun _=>by kernel_rfl
 v68:=fun _=>by kernel_rfl
 i68:=by kernel_rfl
 t69:=by kernel_rfl
 a69:=fun _=>by kernel_rfl
 z69:=fun _=>by kernel_rfl
 v69:=fun _=>by kernel_rfl
 i69:=by kernel_rfl
 g2:=by kernel_rfl
 g3:=by kernel_rfl }
end
section
open Go.RowKit
structure U8V (w:World):Prop where
 m: ∃m:Int,w.cell? ⟨1,0,none⟩=some (.int .i64 m)
 t:Lib.Utf8Tabs 4 5 w
theorem U8V.below {w w':World} (h:U8V w) (hb:Below w.heap.size w w'):U8V w':=
 ⟨h.m.imp fun _ e=>(hb.cell (zMf w _ e)).trans e,Utf8Tabs_below h.t hb⟩
theorem zIi {n b0 b1 b2 b3:Nat} (h:128≤b0) (h1:b1<256) (h2:b2<256) (h3:b3<256) {r k:Nat} (hr:Lib.decodeN n b0 b1 b2 b3=(r,k)):
  (k=1∧r=65533)∨(k=2∧1<n∧128≤b1∧128≤r∧r<2048)∨(k=3∧2<n∧128≤b1∧128≤b2∧2048≤r∧r<65536∧(r<55296∨57344≤r))∨(k=4∧3<n∧128≤b1∧128≤b2∧128≤b3∧65536≤r∧r≤1114111):=by
 unfold Lib.decodeN at hr
 rw[if_neg (by omega)]at hr
 split at hr
 ·rename_i q
  split at hr
  ·cases hr
   right;left
   refine⟨rfl,q.2.1,?_,?_,?_⟩<;>omega
  ·cases hr;exact .inl ⟨rfl,rfl⟩
 ·split at hr
  ·rename_i q
   split at hr
   ·rename_i q2
    cases hr
    right;right;left
    refine⟨rfl,q.2.2.1,?_,?_,?_,?_,?_⟩<;>omega
   ·cases hr;exact .inl ⟨rfl,rfl⟩
  ·split at hr
   ·rename_i q
    split at hr
    ·rename_i q2
     cases hr
     right;right;right
     refine⟨rfl,q.2.2.2.1,?_,?_,?_,?_,?_⟩<;>omega
    ·cases hr;exact .inl ⟨rfl,rfl⟩
   ·cases hr;exact .inl ⟨rfl,rfl⟩
theorem zFS {n:Nat} (h:128≤n) (h2:n<256):128≤(UInt8.ofNat n).toNat:=by rw[UInt8.toNat_ofNat'];omega
theorem zDe {r:Nat} (h:r<55296∨57344≤r) (h2:r≤1114111):(if Utf8.valid ((r:Nat):Int)then((r:Nat):Int).toNat else Utf8.runeError)=r:=by
 rw[if_pos]
 ·simp
 ·simp only[Utf8.valid,Bool.and_eq_true,Bool.or_eq_true,decide_eq_true_eq];omega
theorem zLy {r:Nat} (h1:128≤r) (h2:r<2048): ∃a b:UInt8,Utf8.encode ((r:Nat):Int)=⟨#[a,b]⟩∧128≤a.toNat:=by
 refine⟨UInt8.ofNat (192+r / 64),UInt8.ofNat (128+r % 64),?_,?_⟩
 ·unfold Utf8.encode
  simp only[zDe (r:=r) (by omega) (by omega)]
  rw[if_neg (by omega),if_pos (by omega)]
 ·exact zFS (by omega) (by omega)
theorem zLx {r:Nat} (h1:2048≤r) (h2:r<65536) (h3:r<55296∨57344≤r): ∃a b c:UInt8,Utf8.encode ((r:Nat):Int)=⟨#[a,b,c]⟩∧128≤a.toNat:=by
 refine⟨UInt8.ofNat (224+r / 4096),UInt8.ofNat (128+r / 64 % 64),UInt8.ofNat (128+r % 64),?_,?_⟩
 ·unfold Utf8.encode
  simp only[zDe (r:=r) h3 (by omega)]
  rw[if_neg (by omega),if_neg (by omega),if_pos (by omega)]
 ·exact zFS (by omega) (by omega)
theorem zLw {r:Nat} (h1:65536≤r) (h2:r≤1114111): ∃a b c d:UInt8,Utf8.encode ((r:Nat):Int)=⟨#[a,b,c,d]⟩∧128≤a.toNat:=by
 refine⟨UInt8.ofNat (240+r / 262144),UInt8.ofNat (128+r / 4096 % 64),UInt8.ofNat (128+r / 64 % 64),UInt8.ofNat (128+r % 64),?_,?_⟩
 ·unfold Utf8.encode
  simp only[zDe (r:=r) (by omega) (by omega)]
  rw[if_neg (by omega),if_neg (by omega),if_neg (by omega)]
 ·exact zFS (by omega) (by omega)
def zI3 (T:List Nat):ByteArray:=⟨(T.map UInt8.ofNat).toArray⟩
theorem zCb (T:List Nat):(zI3 T).size=T.length:=by simp[zI3,ByteArray.size]
theorem zB9 {T:List Nat} (hu: ∀b∈T,b<256) (i:Nat):((zI3 T).get! i).toNat=T.getD i 0:=by
 by_cases hi:i<T.length
 ·rw[show(zI3 T).get! i=UInt8.ofNat T[i]by simp[zI3,ByteArray.get!,hi],zMH,zMP hi,Option.getD_some,UInt8.toNat_ofNat']
  have:=hu T[i] (List.getElem_mem hi)
  omega
 ·rw[zMH,zMj (by omega)]
  simp[zI3,ByteArray.get!,show T.length≤i by omega]
  rfl
theorem zJe {T:List Nat} (hu: ∀b∈T,b<256) (h0:0<T.length) (h:128≤T.getD 0 0) {r k:Nat} (hr:Lib.decodeGo (zI3 T)=(r,k)):
  1≤k∧k≤T.length∧(∀j,j<k→128≤T.getD j 0)∧(r=65533∨(128≤r∧r≠0∧r≠10∧r≠47∧((k=2∧ ∃a b:UInt8,Utf8.encode ((r:Nat):Int)=⟨#[a,b]⟩∧128≤a.toNat)∨(k=3∧ ∃a b c:UInt8,Utf8.encode ((r:Nat):Int)=⟨#[a,b,c]⟩∧128≤a.toNat)∨(k=4∧ ∃a b c d:UInt8,Utf8.encode ((r:Nat):Int)=⟨#[a,b,c,d]⟩∧128≤a.toNat)))):=by
 have hg: ∀i,T.getD i 0<256:=fun i=>by
  rw[←zB9 hu];exact UInt8.toNat_lt _
 unfold Lib.decodeGo at hr
 rw[if_neg (by rw[zCb];omega),Lib.decode_at,zB9 hu,zB9 hu,zB9 hu,zB9 hu,zCb]at hr
 rcases zIi h (hg 1) (hg 2) (hg 3) hr with ⟨rfl,rfl⟩|⟨rfl,h1,h2,h3,h4⟩|⟨rfl,h1,h2,h3,h4,h5,h6⟩|⟨rfl,h1,h2,h3,h4,h5,h6⟩
 ·refine⟨by omega,by omega,fun j hj=>?_,.inl rfl⟩
  rw[show j=0 by omega];exact h
 ·refine⟨by omega,by omega,fun j hj=>?_,.inr ⟨by omega,by omega,by omega,by omega,.inl ⟨rfl,zLy h3 h4⟩⟩⟩
  match j,hj with
  |0,_=>exact h
  |1,_=>exact h2
 ·refine⟨by omega,by omega,fun j hj=>?_,.inr ⟨by omega,by omega,by omega,by omega,.inr (.inl ⟨rfl,zLx h4 h5 h6⟩)⟩⟩
  match j,hj with
  |0,_=>exact h
  |1,_=>exact h2
  |2,_=>exact h3
 ·refine⟨by omega,by omega,fun j hj=>?_,.inr ⟨by omega,by omega,by omega,by omega,.inr (.inr ⟨rfl,zLw h5 h6⟩)⟩⟩
  match j,hj with
  |0,_=>exact h
  |1,_=>exact h2
  |2,_=>exact h3
  |3,_=>exact h4
end
end Go.Proofs.YtfcemodgopdkkaaGreatDoor
